/-
  Part 7 of what the proof rests on.
-/
import Derived.Test.YtjedkgogjehigaaGreatUS06
import Derived.Test.YtjedkgogjehigaaGreatUS05
import Derived.Test.YtjedkgogjehigaaGreatUS02
section
set_option linter.unusedVariables false
set_option linter.unusedSimpArgs false
set_option maxHeartbeats 8000000
set_option linter.unusedSectionVars false
namespace Go.Proofs.YtjedkgogjehigaaGreat
open Lf Go
attribute [local irreducible] PureOp EffOp Ev RG W Then InBlock Lf.Fin nth App InitE Pick SubE EvL EvD EvP EvR ResL Lf.Lex SubR SubBR RA RAll EvC FinO FinM ResM ResD FinS val pw digs trimL
theorem okZ_neg {x : Int} (h : okZ x) : okZ (-x) := okZ.of (by have := h.lt; omega)
theorem cmpZ_ok (x y : Int) (hx : okZ x) (hy : okZ y) : ACalls Tryz.prog 99 [zB x, zB y] (.pv (cI (cmpI x y))) := by
  have h1 := right_yes hx
  have h2 := right_yes hy
  have l1 := num_len hx
  have l2 := num_len hy
  have h3 := cmp_ok (sgn x) (sgn y)
  have h4 := compare_ok (digs (mag x)) (digs (mag y)) (digs_norm _) (digs_norm _) (by omega) (by omega)
  rw [val_mag, val_mag] at h4
  have c1 := sgn_cases x
  have c2 := sgn_cases y
  by_cases hs : sgn x = sgn y
  · have e : cmpI x y = sgn x * cmpI (mag x) (mag y) ∧ -1 ≤ sgn x * cmpI (mag x) (mag y) ∧ sgn x * cmpI (mag x) (mag y) ≤ 1 := by
      unfold cmpI
      rcases c1 with h | h | h <;> rcases c2 with h' | h' | h' <;> rw [h.1, h'.1] at hs <;> first | (exfalso; omega) | (rw [h.1, h.2.2, h'.2.2]; repeat' split) <;> omega
    rw [e.1]
    refine ACalls.of_W (qs := [cI (sgn x * cmpI (mag x) (mag y))]) [4] 31 Tryz.func99 (by kernel_rfl) rfl rfl rfl fun G => ?_
    refine W.initA (hw := ?_)
    repeat' (first | ((first | apply U_ | (apply Ug_; exact rfl; exact rfl) | (apply Ugq_; exact rfl; exact rfl) | apply Lex.u | (apply Lex.g; exact rfl; exact rfl) | (apply Lex.gq; exact rfl; exact rfl)); (first | exact QX.B TYok | exact QCl (h1) | exact QCl (h2) | exact QCl (h3) | exact QCl (h4)); exact rfl) | refine SX.Box TYok (h := ?_) | refine SC ?_ | (apply W.draw2 (id := 5) [0, 1, 0, 4, 0, 16, 60, 127, 255] [[2], [23], [2], [25], [3], [27], [26, 28], [24, 29], [30]] 9 [(23, 4), (24, 8388608), (25, 4), (26, 33554432), (27, 8), (28, 134217728), (29, 335544320), (30, 553648128), (4, 1073741824)] mixed (by kernel_rfl) rfl rfl) | (refine W.condA (ht := fun hb => ?_) (hf := fun hb => ?_) <;> (try simp at hb) <;> (try (exfalso; omega))))
    exact Fin.ret ResL.auto
  · have e : cmpI (sgn x) (sgn y) = cmpI x y := by
      unfold cmpI
      rcases c1 with h | h | h <;> rcases c2 with h' | h' | h' <;> rw [h.1, h'.1] at hs <;> first | (exfalso; omega) | (rw [h.1, h'.1]; repeat' split) <;> omega
    rw [e] at h3
    refine ACalls.of_W (qs := [cI (cmpI x y)]) [4] 31 Tryz.func99 (by kernel_rfl) rfl rfl rfl fun G => ?_
    refine W.initA (hw := ?_)
    repeat' (first | ((first | apply U_ | (apply Ug_; exact rfl; exact rfl) | (apply Ugq_; exact rfl; exact rfl) | apply Lex.u | (apply Lex.g; exact rfl; exact rfl) | (apply Lex.gq; exact rfl; exact rfl)); (first | exact QX.B TYok | exact QCl (h1) | exact QCl (h2) | exact QCl (h3) | exact QCl (h4)); exact rfl) | refine SX.Box TYok (h := ?_) | refine SC ?_ | (refine W.condA (ht := fun hb => ?_) (hf := fun hb => ?_) <;> (try simp at hb) <;> (try (exfalso; omega))))
    exact Fin.ret ResL.auto
theorem divZ_ok (x y : Int) (hx : okZ x) (hy : okZ y) (h0 : y ≠ 0) : ACalls Tryz.prog 98 [zB x, zB y] (.tup [zB (quoZ x y), zB (remZ x y), cI 0]) := by
  have h1 := right_yes hx
  have h2 := right_yes hy
  have l1 := num_len hx
  have l2 := num_len hy
  have hs := mul_sgn x y
  have c1 := sgn_cases x
  have c2 := sgn_cases y
  have mx := mag_nn x
  have my : 0 < mag y := by omega
  have h3 := div_ok (digs (mag x)) (digs (mag y)) (digs_norm _) (digs_norm _) (by omega) (by omega) (fun e => by rw [digs_nil (by omega)] at e; omega)
  rw [val_mag, val_mag] at h3
  have hq := Int.ediv_nonneg mx (show 0 ≤ mag y by omega)
  have hq2 : mag x / mag y ≤ mag x := Int.ediv_le_self _ mx
  have hr := Int.emod_nonneg (mag x) (show mag y ≠ 0 by omega)
  have hr2 := Int.emod_lt_of_pos (mag x) my
  have hm := Int.emod_add_mul_ediv (mag x) (mag y)
  have lq := digs_mono hq hq2
  have lr := digs_mono hr (show mag x % mag y ≤ mag y by omega)
  generalize mag x / mag y = q at *
  generalize mag x % mag y = r at *
  have hr0 : (digs r).length = 0 ↔ r = 0 := by rw [List.length_eq_zero_iff, digs_nil hr]
  by_cases hc : sgn x * sgn y < 0 ∧ 0 < r
  · have hne : 0 < (digs r).length := by omega
    have hxy : (x < 0 ∧ 0 < y) ∨ (0 < x ∧ y < 0) := by
      rcases c1 with h | h | h <;> rcases c2 with h' | h' | h' <;> rw [h.1, h'.1] at hc <;> first | (exfalso; omega) | omega
    have h4 := add_ok (digs q) [1] (digs_norm _).dig (Dig.cons (by omega) Dig.nil) (by omega) (by simp)
    rw [val_digs hq, val_one] at h4
    have h5 := sub_ok (digs (mag y)) (digs r) (digs_norm _).dig (digs_norm _).dig (by omega) lr (by rw [val_mag, val_digs hr]; omega)
    rw [val_mag, val_digs hr] at h5
    have l6 := digs_mono (show 0 ≤ mag y - r by omega) (show mag y - r ≤ mag y by omega)
    have l7 : (digs (q + 1)).length ≤ 100 := (digs_len (by omega)).2 (by
      have := hx; unfold okZ at this
      have := pw_lt (show 60 < 100 by omega); omega)
    obtain ⟨u1, u2⟩ := quo_uniq (x := x) (q := -(q + 1)) (r := sgn y * (mag y - r)) h0 (by
        rcases hxy with h | h
        · have e1 : mag x = -x := by omega
          have e2 : mag y = y := by omega
          have e3 : sgn y = 1 := by omega
          rw [e3, e2]; rw [e1, e2] at hm; grind
        · have e1 : mag x = x := by omega
          have e2 : mag y = -y := by omega
          have e3 : sgn y = -1 := by omega
          rw [e3, e2]; rw [e1, e2] at hm; grind)
      (fun hp => by rw [show sgn y = 1 by omega]; omega) (fun hp => by rw [show sgn y = -1 by omega]; omega)
    rw [← u1, ← u2]
    have h6 := signed_ok (-1) (digs (q + 1)) (digs_norm _).dig (by omega) (-(q + 1)) (.inr (.inl rfl)) (by rw [val_digs (by omega)]; omega)
    have h7 := signed_ok (sgn y) (digs (mag y - r)) (digs_norm _).dig (by omega) (sgn y * (mag y - r)) (by omega) (by rw [val_digs (by omega)])
    generalize sgn y * (mag y - r) = z2 at *
    generalize -(q + 1) = z1 at *
    refine ACalls.of_M TYok (qs := [zB z1, zB z2, cI 0]) [.cell 4 38, .cell 5 38, .tmp 6] 67 Tryz.func98 (by kernel_rfl) rfl rfl rfl fun G => ?_
    refine W.initA (hw := ?_)
    repeat' (first | ((first | apply U_ | (apply Ug_; exact rfl; exact rfl) | (apply Ugq_; exact rfl; exact rfl) | apply Lex.u | (apply Lex.g; exact rfl; exact rfl) | (apply Lex.gq; exact rfl; exact rfl)); (first | (apply Q_litD TYok; (repeat (first | exact EvR.nil | apply EvR.cons Ev.auto)); exact rfl; exact rfl; exact rfl; exact rfl; exact rfl; exact rfl) | exact QX.B TYok | exact QX.Len TYok | exact QX.Ext TYok | exact QX.Build TYok | exact QCl (h1) | exact QCl (h2) | exact QCd (h3) | exact QCd (h5) | exact QCd (h6) | exact QCd (h7) | exact QCd (h4)); exact rfl) | refine SX.Alloc TYok (h := ?_) | refine SX.Store TYok (h := ?_) | refine SX.Box TYok (h := ?_) | refine SC ?_ | (apply W.draw2 (id := 7) [0, 0, 3, 7, 0, 16, 0, 64, 0, 463, 1023, 2047, 4095, 8191] [[7], [], [45, 46], [47], [3], [49], [3], [51], [8], [52, 53]] 10 [(45, 128), (46, 0), (47, 105553116266496), (48, 140737488355328), (49, 8), (50, 562949953421312), (51, 8), (52, 2251799813685248), (53, 256), (54, 13510798882111488)] mixed (by kernel_rfl) rfl rfl) | (apply W.draw2 (id := 8) [0, 1, 0, 4, 15, 0, 63, 0, 128, 0, 1023, 2047, 4095, 8191] [[2], [56], [3], [58], [57, 59], [7], [60, 61], [2], [63], [8], [64, 65]] 11 [(56, 4), (57, 72057594037927936), (58, 8), (59, 288230376151711744), (60, 720575940379279360), (61, 128), (62, 3458764513820540928), (63, 4), (64, 9223372036854775808), (65, 256), (66, 55340232221128654848)] mixed (by kernel_rfl) rfl rfl) | (refine W.condA (ht := fun hb => ?_) (hf := fun hb => ?_) <;> (try simp at hb) <;> (try (exfalso; omega))))
    · exact FinM.ret ResM.auto
    · exact absurd (hb hc.1) (fun e => by rw [e] at hne; simp at hne)
  · have hcc : ¬ (sgn x * sgn y < 0 ∧ 0 < (digs r).length) := by omega
    have hxy : (x = 0) ∨ (0 < x ∧ 0 < y) ∨ (x < 0 ∧ y < 0) ∨ r = 0 := by
      by_cases hr' : r = 0
      · exact .inr (.inr (.inr hr'))
      · have hc2 : ¬ sgn x * sgn y < 0 := fun q => hc ⟨q, by omega⟩
        rcases c1 with h | h | h
        · rcases c2 with h' | h' | h'
          · omega
          · omega
          · rw [h.1, h'.1] at hc2; exact absurd (by decide) hc2
        · exact .inl h.2.1
        · rcases c2 with h' | h' | h'
          · rw [h.1, h'.1] at hc2; exact absurd (by decide) hc2
          · omega
          · omega
    have hq0 : x = 0 → q = 0 := fun h => by
      have : mag x = 0 := by omega
      omega
    have hsm : sgn x * sgn y = 1 ∨ sgn x * sgn y = -1 ∨ q = 0 := by
      rcases c1 with h | h | h
      · rcases c2 with h' | h' | h'
        · rw [h.1, h'.1]; exact .inl rfl
        · exact absurd h'.2.1 h0
        · rw [h.1, h'.1]; exact .inr (.inl rfl)
      · exact .inr (.inr (hq0 h.2.1))
      · rcases c2 with h' | h' | h'
        · rw [h.1, h'.1]; exact .inr (.inl rfl)
        · exact absurd h'.2.1 h0
        · rw [h.1, h'.1]; exact .inl rfl
    have hsx : sgn x = 1 ∨ sgn x = -1 ∨ r = 0 := by
      rcases c1 with h | h | h
      · exact .inr (.inl h.1)
      · have e := hq0 h.2.1
        rw [e, Int.mul_zero] at hm
        exact .inr (.inr (by omega))
      · exact .inl h.1
    obtain ⟨u1, u2⟩ := quo_uniq (x := x) (q := sgn x * sgn y * q) (r := sgn x * r) h0 (by
        have e1 := sgn_mag x
        have e2 := sgn_mag y
        have e3 : sgn y * sgn y = 1 := by
          rcases c2 with h | h | h
          · rw [h.1]; rfl
          · exact absurd h.2.1 h0
          · rw [h.1]; rfl
        generalize sgn x = sx at *
        generalize sgn y = sy at *
        generalize mag x = px at *
        generalize mag y = py at *
        subst e1; subst e2
        rw [← hm]
        have e4 : sy * py * (sx * sy * q) = sx * (py * q) * (sy * sy) := by grind
        rw [e4, e3]; grind)
      (fun hp => by
        rcases hxy with h | h | h | h
        · rw [show sgn x = 0 by omega]; omega
        · rw [show sgn x = 1 by omega]; omega
        · omega
        · rw [h, Int.mul_zero]; omega)
      (fun hp => by
        rcases hxy with h | h | h | h
        · rw [show sgn x = 0 by omega]; omega
        · omega
        · rw [show sgn x = -1 by omega]; omega
        · rw [h, Int.mul_zero]; omega)
    rw [← u1, ← u2]
    have h6 := signed_ok (sgn x * sgn y) (digs q) (digs_norm _).dig (by omega) (sgn x * sgn y * q) (by rw [val_digs hq]; exact hsm) (by rw [val_digs hq])
    have h7 := signed_ok (sgn x) (digs r) (digs_norm _).dig (by omega) (sgn x * r) (by rw [val_digs hr]; exact hsx) (by rw [val_digs hr])
    generalize sgn x * sgn y * q = z1 at *
    generalize sgn x * r = z2 at *
    refine ACalls.of_M TYok (qs := [zB z1, zB z2, cI 0]) [.cell 4 38, .cell 5 38, .tmp 6] 67 Tryz.func98 (by kernel_rfl) rfl rfl rfl fun G => ?_
    refine W.initA (hw := ?_)
    repeat' (first | ((first | apply U_ | (apply Ug_; exact rfl; exact rfl) | (apply Ugq_; exact rfl; exact rfl) | apply Lex.u | (apply Lex.g; exact rfl; exact rfl) | (apply Lex.gq; exact rfl; exact rfl)); (first | exact QX.B TYok | exact QX.Len TYok | exact QX.Ext TYok | exact QX.Build TYok | exact QCl (h1) | exact QCl (h2) | exact QCd (h3) | exact QCd (h6) | exact QCd (h7)); exact rfl) | refine SX.Alloc TYok (h := ?_) | refine SX.Store TYok (h := ?_) | refine SX.Box TYok (h := ?_) | refine SC ?_ | (apply W.draw2 (id := 8) [0, 1, 0, 4, 15, 0, 63, 0, 128, 0, 1023, 2047, 4095, 8191] [[2], [56], [3], [58], [57, 59], [7], [60, 61], [2], [63], [8], [64, 65]] 11 [(56, 4), (57, 72057594037927936), (58, 8), (59, 288230376151711744), (60, 720575940379279360), (61, 128), (62, 3458764513820540928), (63, 4), (64, 9223372036854775808), (65, 256), (66, 55340232221128654848)] mixed (by kernel_rfl) rfl rfl) | (refine W.condA (ht := fun hb => ?_) (hf := fun hb => ?_) <;> (try simp at hb) <;> (try (exfalso; omega))))
    all_goals first
      | exact FinM.ret ResM.auto
      | (exfalso; apply hcc; exact ⟨hb.1, List.length_pos_iff.2 hb.2⟩)
theorem gcd_step {u v : Int} (hu : 0 ≤ u) (hv : 0 < v) : Int.gcd v (u % v) = Int.gcd u v := by
  obtain ⟨a, rfl⟩ := Int.eq_ofNat_of_zero_le hu
  obtain ⟨b, rfl⟩ := Int.eq_ofNat_of_zero_le (show 0 ≤ v by omega)
  rw [← Int.natCast_emod]
  show Nat.gcd b (a % b) = Nat.gcd a b
  rw [Nat.gcd_comm b, Nat.gcd_comm a, Nat.gcd_rec b a]
def gcdZ (x y : Int) : Int := (Int.gcd x y : Int)
theorem mag_abs (x : Int) : (mag x).natAbs = x.natAbs := by have := sgn_cases x; omega
theorem gcd_mag (x y : Int) : Int.gcd (mag x) (mag y) = Int.gcd x y := by
  show Nat.gcd _ _ = Nat.gcd _ _
  rw [mag_abs, mag_abs]
theorem gcd_lt {x y : Int} (hx : okZ x) (hy : okZ y) : okZ (gcdZ x y) := by
  have hl := hx.lt
  have hl' := hy.lt
  have h0 := pw_pos 60
  refine okZ.of ⟨by unfold gcdZ; omega, ?_⟩
  unfold gcdZ
  by_cases h : x = 0
  · subst h
    rw [Int.gcd_zero_left]; omega
  · have h1 : (Int.gcd x y) ≤ x.natAbs := Nat.le_of_dvd (by omega) (Nat.gcd_dvd_left _ _)
    omega
theorem gcdZ_ok (x y : Int) (hx : okZ x) (hy : okZ y) : ACalls Tryz.prog 62 [zB x, zB y] (.tup [zB (gcdZ x y), cI 0]) := by
  have h1 := right_yes hx
  have h2 := right_yes hy
  have l1 := num_len hx
  have l2 := num_len hy
  have hg := gcd_lt hx hy
  have hg0 : 0 ≤ gcdZ x y := by unfold gcdZ; omega
  have h3 := (clone_ok (digs (mag x)) (by omega)).data rfl
  have hgm : mag (gcdZ x y) = gcdZ x y := by have := sgn_cases (gcdZ x y); omega
  have h5 := checked_yes (gcdZ x y) (by have := num_len hg; omega)
  rw [show fullZ (gcdZ x y) = gcdZ x y from if_pos hg, show fullE (gcdZ x y) = 0 from if_pos hg] at h5
  refine ACalls.of_M TYok (qs := [zB (gcdZ x y), cI 0]) [.cell 4 38, .tmp 5] 44 Tryz.func62 (by kernel_rfl) rfl rfl rfl fun G => ?_
  refine W.initA (hw := ?_)
  repeat' (first | ((first | apply U_ | (apply Ug_; exact rfl; exact rfl) | (apply Ugq_; exact rfl; exact rfl) | apply Lex.u | (apply Lex.g; exact rfl; exact rfl) | (apply Lex.gq; exact rfl; exact rfl)); (first | exact QX.B TYok | exact QX.Len TYok | exact QX.Ext TYok | exact QX.Build TYok | exact QCl (h1) | exact QCl (h2) | exact QCd (h3)); exact rfl) | refine SX.Alloc TYok (h := ?_) | refine SX.Box TYok (h := ?_) | refine SC ?_ | (apply W.draw2 (id := 3) [0, 1, 3, 0, 8, 7, 63] [[2], [22], [23], [3], [25], [24], [26]] 7 [(22, 4), (23, 4194304), (24, 8388608), (25, 8), (26, 33554432), (6, 16777216), (7, 67108864)] mixed (by kernel_rfl) rfl rfl) | (refine W.condA (ht := fun hb => ?_) (hf := fun hb => ?_) <;> (try simp at hb) <;> (try (exfalso; omega))))
  apply W.loopP (σ := Int × Int) 44 [4] (fun (u, v) => (0 ≤ u ∧ 0 ≤ v ∧ (Int.gcd u v : Int) = gcdZ x y ∧ u < pw 60 ∧ v < pw 60)) (fun (u, v) => [(6, (True, .pv (slI (digs u)))), (7, (True, .pv (slI (digs v))))]) (fun _ => [(4, ⟨38, 2, [[.int .i64 0, .slnil]]⟩)]) (fun (u, v) => v.toNat) ((mag x, mag y))
  case hp => repeat (first | exact Pick.nil | apply Pick.cons rfl)
  case h0 =>
    refine ⟨⟨mag_nn x, mag_nn y, by unfold gcdZ; rw [gcd_mag], hx, hy⟩, ?_⟩
    exact Le.auto
  case round =>
    rintro ⟨u, v⟩ ⟨g1, g2, g3, g4, g5⟩
    dsimp only at g1 g2 g3 g4 g5 ⊢
    have lu := (digs_len g1).2 g4
    have lv := (digs_len g2).2 g5
    have hv0 : (digs v).length = 0 ↔ v = 0 := by rw [List.length_eq_zero_iff, digs_nil g2]
    apply W.norm (by repeat (first | exact App.nil | apply App.cons))
    by_cases hv : v = 0
    · have hlv : (digs v).length = 0 := hv0.2 hv
      have hug : u = gcdZ x y := by rw [hv, Int.gcd_zero_right] at g3; omega
      have h6 := (clone_ok (digs u) (by omega)).data rfl
      have h7 := signed_ok 1 (digs u) (digs_norm _).dig (by omega) (gcdZ x y) (.inl rfl) (by rw [val_digs g1]; omega)
      repeat' (first | ((first | apply U_ | (apply Ug_; exact rfl; exact rfl) | (apply Ugq_; exact rfl; exact rfl) | apply Lex.u | (apply Lex.g; exact rfl; exact rfl) | (apply Lex.gq; exact rfl; exact rfl)); (first | exact QX.B TYok | exact QX.Len TYok | exact QX.Ext TYok | exact QX.Build TYok | exact QCd (h6) | exact QCd (h7) | exact QCd (h5)); exact rfl) | refine SX.Store TYok (h := ?_) | refine SC ?_ | (refine W.condA (ht := fun hb => ?_) (hf := fun hb => ?_) <;> (try simp at hb) <;> (try (exfalso; omega))))
      exact FinM.ret ResM.auto
    · have hlv : (digs v).length ≠ 0 := fun e => hv (hv0.1 e)
      have h6 := div_ok (digs u) (digs v) (digs_norm _) (digs_norm _) (by omega) (by omega) (fun e => hlv (by rw [e]; rfl))
      rw [val_digs g1, val_digs g2] at h6
      have r0 := Int.emod_nonneg u hv
      have r1 := Int.emod_lt_of_pos u (show 0 < v by omega)
      have r2 := gcd_step g1 (show 0 < v by omega)
      repeat' (first | ((first | apply U_ | (apply Ug_; exact rfl; exact rfl) | (apply Ugq_; exact rfl; exact rfl) | apply Lex.u | (apply Lex.g; exact rfl; exact rfl) | (apply Lex.gq; exact rfl; exact rfl)); (first | exact QX.B TYok | exact QX.Len TYok | exact QX.Ext TYok | exact QX.Build TYok | exact QCd (h6)); exact rfl) | refine SC ?_ | (refine W.condA (ht := fun hb => ?_) (hf := fun hb => ?_) <;> (try simp at hb) <;> (try (exfalso; omega))))
      · refine ⟨(v, u % v), ⟨g2, r0, by rw [r2]; exact g3, g5, by omega⟩, ?_, by (try simp only); omega⟩
        exact Le.auto
      · exact absurd (by rw [hb]; rfl) hlv
end Go.Proofs.YtjedkgogjehigaaGreat
end
section
set_option linter.unusedVariables false
set_option linter.unusedSimpArgs false
set_option maxHeartbeats 8000000
set_option linter.unusedSectionVars false
namespace Go.Proofs.YtjedkgogjehigaaGreat
open Lf Go
attribute [local irreducible] PureOp EffOp Ev RG W Then InBlock Lf.Fin nth App InitE Pick SubE EvL EvD EvP EvR ResL Lf.Lex SubR SubBR RA RAll EvC FinO FinM ResM ResD FinS val pw digs trimL
def i64B (x : Int) : Prop := -9223372036854775808 ≤ x ∧ x ≤ 9223372036854775807
structure OfI (x : Int) (l : List Int) (u : Int) : Prop where
  dig : Dig l
  u0 : 0 ≤ u
  eq : mag x = val l + pw l.length * u
theorem i64_mag {x : Int} (h : i64B x) : mag x ≤ 9223372036854775808 := by
  have := sgn_cases x
  unfold i64B at h; omega
theorem i64_ok {x : Int} (h : i64B x) : okZ x := by
  have h1 := i64_mag h
  have h2 : pw 4 = 1208925819614629174706176 := by simp [pw]
  have h3 := pw_mono (show 4 ≤ 60 by omega)
  unfold okZ; omega
theorem OfI.short {x u : Int} {l : List Int} (h : OfI x l u) (hx : i64B x) : (0 < u → l.length ≤ 3) ∧ u ≤ 9223372036854775808 := by
  have h1 := i64_mag hx
  have h2 := h.eq
  have h3 := val_lo h.dig
  have hp := pw_pos l.length
  have h5 : 1 * u ≤ pw l.length * u := Int.mul_le_mul_of_nonneg_right (by omega) h.u0
  refine ⟨fun hu => ?_, by omega⟩
  have h4 : pw l.length * 1 ≤ pw l.length * u := Int.mul_le_mul_of_nonneg_left (by omega) (by omega)
  have h6 : pw 4 = 1208925819614629174706176 := by simp [pw]
  have := pw_inj (show pw l.length < pw 4 by omega)
  omega
theorem OfI.step {x u : Int} {l : List Int} (h : OfI x l u) : OfI x (l ++ [u % 1048576]) (u / 1048576) := by
  have h1 := h.u0
  refine ⟨h.dig.app (Dig.cons (by omega) Dig.nil), by omega, ?_⟩
  have h2 := h.eq
  rw [val_app, val_one, List.length_append, List.length_singleton, pw_succ]
  have h3 := Int.emod_add_mul_ediv u 1048576
  generalize u % 1048576 = r at *
  generalize u / 1048576 = q at *
  subst h3
  rw [h2]; grind
theorem OfI.done {x : Int} {l : List Int} (h : OfI x l 0) : val l = mag x := by rw [h.eq]; omega
theorem ofZ_walk (x : Int) (hx : i64B x) (s : Int) (hs : (s = 1 ∧ 0 ≤ x) ∨ (s = -1 ∧ x < 0)) : ACalls Tryz.prog 66 [cI x] (.pv (zB x)) := by
  have hx' := hx
  unfold i64B at hx'
  have c1 := sgn_cases x
  have key : ∀ l : List Int, OfI x l 0 → l.length ≤ 10 → ACalls Tryz.prog 95 [cI s, slI l] (.pv (zB x)) := fun l hl hll =>
    signed_ok s l hl.dig (by omega) x (by omega) (by rw [hl.done]; rcases hs with h | h <;> rw [h.1] <;> omega)
  have e1 : 0 ≤ x → IntKind.u64.wrap x = mag x := fun h => by rw [wrap_u64']; omega
  have e2 : x < 0 → IntKind.u64.wrap (0 - IntKind.u64.wrap x) = mag x := fun h => by rw [wrap_u64', wrap_u64']; omega
  refine ACalls.of_M TYok (qs := [zB x]) [.cell 2 38] 25 Tryz.func66 (by kernel_rfl) rfl rfl rfl fun G => ?_
  refine W.initA (hw := ?_)
  repeat' (first | ((first | apply U_); (first | (apply Q_or20; exact Ev.auto; exact Ev.auto; (intro hg; first | omega | (simp; omega) | (simp at hg; simp; omega))) | (apply Q_shl20; exact Ev.auto; (intro hg; first | omega | (simp; omega) | (simp at hg; simp; omega))) | (apply Q_shr20; exact Ev.auto) | (apply Q_and1; exact Ev.auto) | (apply Q_mask20; exact Ev.auto) | exact QX.B TYok | exact QX.Conv TYok | (apply Q_negw; exact Ev.auto)); exact rfl) | refine SX.Alloc TYok (h := ?_) | refine SX.Store TYok (h := ?_) | refine SX.Lit TYok (h := ?_) | refine SX.App TYok (h := ?_) | refine SC ?_ | (refine W.condA (ht := fun hb => ?_) (hf := fun hb => ?_) <;> (try simp at hb) <;> (try (exfalso; omega))))
  · obtain rfl : s = -1 := by omega
    rw [e2 hb]
    have m0 := i64_mag hx
    have m1 := mag_nn x
    refine W.weaken (Le.nilOwn (t := 5) (n := 21) (E := 3) (sz := 1) rfl) ?_
    apply W.loopP (σ := Int × List Int) 25 [2] (fun (u, l) => OfI x l u ∧ l.length ≤ 4) (fun (u, l) => [(3, vI (-1)), (4, (True, .pv (.one (.int .u64 u)))), (5, (True, .slc 21))]) (fun (u, l) => [(2, ⟨38, 2, [[.int .i64 0, .slnil]]⟩), (21, ⟨3, 1, l.map Lf.encI⟩)]) (fun (u, l) => u.toNat) ((mag x, []))
    case hp => repeat (first | exact Pick.nil | apply Pick.cons rfl)
    case h0 =>
      refine ⟨⟨⟨Dig.nil, m1, by simp [val, pw]⟩, by simp⟩, ?_⟩
      exact Le.auto
    case round =>
      rintro ⟨u, l⟩ ⟨g1, gl⟩
      dsimp only at g1 gl ⊢
      have g2 := g1.short hx
      have g3 := g1.u0
      apply W.norm (by repeat (first | exact App.nil | apply App.cons))
      dsimp only [AV.ment, cond_false]
      by_cases hu : 0 < u
      · have g4 := g2.1 hu
        repeat' (first | ((first | apply U_); (first | (apply Q_shr20u; exact Ev.auto) | (apply Q_mask20u; exact Ev.auto; omega) | exact QX.B TYok | exact QX.Conv TYok); exact rfl) | refine SX.Alloc TYok (h := ?_) | refine SX.Store TYok (h := ?_) | refine SX.Lit TYok (h := ?_) | refine SX.App TYok (h := ?_) | refine SC ?_ | (refine W.condA (ht := fun hb => ?_) (hf := fun hb => ?_) <;> (try simp at hb) <;> (try (exfalso; omega))))
        refine ⟨(u / 1048576, l ++ [u % 1048576]), ⟨g1.step, by simp; omega⟩, ?_, by (try simp only); omega⟩
        exact Le.auto
      · obtain rfl : u = 0 := by omega
        have g5 : l.length ≤ 10 := by omega
        have k1 := key l g1 g5
        repeat' (first | (refine W.weaken (Le.freeze1 (m := 21) rfl) ?_; apply W.region (id := 8)) | ((first | apply U_); (first | exact QX.B TYok | exact QX.Conv TYok | exact QCd (k1)); exact rfl) | refine SX.Alloc TYok (h := ?_) | refine SX.Store TYok (h := ?_) | refine SX.Lit TYok (h := ?_) | refine SX.App TYok (h := ?_) | refine SC ?_ | (refine W.condA (ht := fun hb => ?_) (hf := fun hb => ?_) <;> (try simp at hb) <;> (try (exfalso; omega))))
        exact FinM.ret ResM.auto
  · obtain rfl : s = 1 := by omega
    rw [e1 hb]
    have m0 := i64_mag hx
    have m1 := mag_nn x
    refine W.weaken (Le.nilOwn (t := 5) (n := 21) (E := 3) (sz := 1) rfl) ?_
    apply W.loopP (σ := Int × List Int) 25 [2] (fun (u, l) => OfI x l u ∧ l.length ≤ 4) (fun (u, l) => [(3, vI (1)), (4, (True, .pv (.one (.int .u64 u)))), (5, (True, .slc 21))]) (fun (u, l) => [(2, ⟨38, 2, [[.int .i64 0, .slnil]]⟩), (21, ⟨3, 1, l.map Lf.encI⟩)]) (fun (u, l) => u.toNat) ((mag x, []))
    case hp => repeat (first | exact Pick.nil | apply Pick.cons rfl)
    case h0 =>
      refine ⟨⟨⟨Dig.nil, m1, by simp [val, pw]⟩, by simp⟩, ?_⟩
      exact Le.auto
    case round =>
      rintro ⟨u, l⟩ ⟨g1, gl⟩
      dsimp only at g1 gl ⊢
      have g2 := g1.short hx
      have g3 := g1.u0
      apply W.norm (by repeat (first | exact App.nil | apply App.cons))
      dsimp only [AV.ment, cond_false]
      by_cases hu : 0 < u
      · have g4 := g2.1 hu
        repeat' (first | ((first | apply U_); (first | (apply Q_shr20u; exact Ev.auto) | (apply Q_mask20u; exact Ev.auto; omega) | exact QX.B TYok | exact QX.Conv TYok); exact rfl) | refine SX.Alloc TYok (h := ?_) | refine SX.Store TYok (h := ?_) | refine SX.Lit TYok (h := ?_) | refine SX.App TYok (h := ?_) | refine SC ?_ | (refine W.condA (ht := fun hb => ?_) (hf := fun hb => ?_) <;> (try simp at hb) <;> (try (exfalso; omega))))
        refine ⟨(u / 1048576, l ++ [u % 1048576]), ⟨g1.step, by simp; omega⟩, ?_, by (try simp only); omega⟩
        exact Le.auto
      · obtain rfl : u = 0 := by omega
        have g5 : l.length ≤ 10 := by omega
        have k1 := key l g1 g5
        repeat' (first | (refine W.weaken (Le.freeze1 (m := 21) rfl) ?_; apply W.region (id := 8)) | ((first | apply U_); (first | exact QX.B TYok | exact QX.Conv TYok | exact QCd (k1)); exact rfl) | refine SX.Alloc TYok (h := ?_) | refine SX.Store TYok (h := ?_) | refine SX.Lit TYok (h := ?_) | refine SX.App TYok (h := ?_) | refine SC ?_ | (refine W.condA (ht := fun hb => ?_) (hf := fun hb => ?_) <;> (try simp at hb) <;> (try (exfalso; omega))))
        exact FinM.ret ResM.auto
theorem ofZ_ok (x : Int) (hx : i64B x) : ACalls Tryz.prog 66 [cI x] (.pv (zB x)) := by
  by_cases h : 0 ≤ x
  · exact ofZ_walk x hx 1 (.inl ⟨rfl, h⟩)
  · exact ofZ_walk x hx (-1) (.inr ⟨rfl, by omega⟩)
instance (x : Int) : Decidable (i64B x) := by unfold i64B; infer_instance
def intV (x : Int) : Int := if i64B x then x else 0
theorem val_short {l : List Int} {i : Nat} (dl : Dig l) (hi : i < l.length) (h4 : l.length ≤ 4) (h3 : i = 3 → nth l i ≤ 8) : 0 ≤ val (l.take i) + pw i * nth l i ∧ val (l.take i) + pw i * nth l i ≤ 18446744073709551615 := by
  have h1 := low_at dl (j := i) (by omega)
  have h2 := dl.nth hi
  have hm : 0 ≤ pw i * nth l i := Int.mul_nonneg (by have := pw_pos i; omega) h2.1
  have hc : i = 0 ∨ i = 1 ∨ i = 2 ∨ i = 3 := by omega
  refine ⟨by omega, ?_⟩
  rcases hc with rfl | rfl | rfl | rfl <;> simp only [pw] at h1 ⊢ <;> omega
theorem intZ_ok (x : Int) (hx : okZ x) : ACalls Tryz.prog 96 [zB x] (.tup [cI (intV x), cB (decide (i64B x))]) := by
  have h1 := right_yes hx
  have l1 := num_len hx
  have c1 := sgn_cases x
  have dl := digs_norm (mag x)
  have ev := val_mag x
  have m0 := mag_nn x
  have hno : ¬ mag x ≤ 9223372036854775808 → intV x = 0 ∧ decide (i64B x) = false := fun h => by
    have : ¬ i64B x := fun q => h (i64_mag q)
    exact ⟨if_neg this, decide_eq_false this⟩
  have hbig : ¬ (digs (mag x)).length ≤ 4 → ¬ mag x ≤ 9223372036854775808 := fun h q => h ((digs_len m0).2 (by
    have h6 : pw 4 = 1208925819614629174706176 := by simp [pw]
    omega))
  by_cases hl : (digs (mag x)).length ≤ 4
  case neg =>
    obtain ⟨e1, e2⟩ := hno (hbig hl)
    rw [e1, e2]
    refine ACalls.of_M TYok (qs := [cI 0, cB false]) [.tmp 2, .tmp 3] 59 Tryz.func96 (by kernel_rfl) rfl rfl rfl fun G => ?_
    refine W.initA (hw := ?_)
    repeat' (first | ((first | apply U_ | (apply Ug_; exact rfl; exact rfl) | (apply Ugq_; exact rfl; exact rfl)); (first | exact QX.B TYok | exact QX.Len TYok | exact QX.Idx TYok | exact QX.Conv TYok | exact QCl (h1)); exact rfl) | refine SX.Box TYok (h := ?_) | refine SC ?_ | (apply S_isnil TYok; exact rfl; exact rfl; exact rfl; exact Ev.auto; intro bn hnil) | refine SG ?_ | (refine W.condA (ht := fun hb => ?_) (hf := fun hb => ?_) <;> (try simp at hb) <;> (try (exfalso; omega))))
    exact FinM.ret ResM.auto
  refine ACalls.of_W (qs := [cI (intV x), cB (decide (i64B x))]) [2, 3] 59 Tryz.func96 (by kernel_rfl) rfl rfl rfl fun G => ?_
  refine W.initA (hw := ?_)
  repeat' (first | ((first | apply U_ | (apply Ug_; exact rfl; exact rfl) | (apply Ugq_; exact rfl; exact rfl)); (first | exact QX.B TYok | exact QX.Len TYok | exact QX.Idx TYok | exact QX.Conv TYok | exact QCl (h1)); exact rfl) | refine SX.Box TYok (h := ?_) | refine SC ?_ | (apply S_isnil TYok; exact rfl; exact rfl; exact rfl; exact Ev.auto; intro bn hnil) | refine SG ?_ | (refine W.condA (ht := fun hb => ?_) (hf := fun hb => ?_) <;> (try simp at hb) <;> (try (exfalso; omega))))
  apply W.loopP (σ := Nat × Int) 59 [1, 17, 18] (fun (i, u) => i ≤ (digs (mag x)).length ∧ u = val ((digs (mag x)).take i) ∧ 0 ≤ u ∧ u ≤ 18446744073709551615) (fun (i, u) => [(4, (True, .pv (.one (.int .u64 u)))), (19, vI i)]) (fun _ => [(1, ⟨38, 2, [[.int .i64 (sgn x), .sl ((digs (mag x)).map Lf.encI)]]⟩)]) (fun (i, u) => (digs (mag x)).length - i) ((0, 0))
  case hp => repeat (first | exact Pick.nil | apply Pick.cons rfl)
  case h0 =>
    refine ⟨⟨by simp, by simp [val], by omega, by omega⟩, ?_⟩
    exact Le.auto
  case round =>
    rintro ⟨i, u⟩ ⟨g1, g2, g3, g4⟩
    dsimp only at g1 g2 g3 g4 ⊢
    generalize hD : digs (mag x) = D at *
    apply W.norm (by repeat (first | exact App.nil | apply App.cons))
    by_cases hi : i < D.length
    · have d1 := dl.dig.nth hi
      by_cases h3 : i = 3 ∧ 8 < nth D i
      · have hn : ¬ mag x ≤ 9223372036854775808 := by
          rw [← ev, val_split D (i := i) (by omega), val_drop hi]
          have q1 := val_lo (dl.dig.take i)
          have q2 := val_lo (dl.dig.drop (i + 1))
          obtain ⟨rfl, q3⟩ := h3
          simp only [pw]
          omega
        obtain ⟨e1, e2⟩ := hno hn
        rw [e1, e2]
        repeat' (first | ((first | apply U_ | (apply Ug_; exact rfl; exact rfl) | (apply Ugq_; exact rfl; exact rfl)); (first | exact QX.B TYok | exact QX.Len TYok | exact QX.Idx TYok | exact QX.Conv TYok); exact rfl) | refine SX.Box TYok (h := ?_) | refine SC ?_ | (apply S_isnil TYok; exact rfl; exact rfl; exact rfl; exact Ev.auto; intro bn hnil) | refine SG ?_ | (refine W.condA (ht := fun hb => ?_) (hf := fun hb => ?_) <;> (try simp at hb) <;> (try (exfalso; omega))))
        · exact Fin.ret ResL.auto
        all_goals (exfalso; omega)
      · have hs := val_short dl.dig hi hl (by omega)
        have hor := u64_or20 (i := i) (u := u) (d := nth D i) (by omega) (by rw [g2]; exact low_at dl.dig (by omega)) d1 (by omega)
        have hwd : IntKind.u64.wrap (nth D i) = nth D i := by rw [wrap_u64']; omega
        repeat' (first | ((first | apply U_ | (apply Ug_; exact rfl; exact rfl) | (apply Ugq_; exact rfl; exact rfl)); (first | (apply Q_shl; exact Ev.auto; exact Ev.auto; (intro hg; omega)) | exact QX.B TYok | exact QX.Len TYok | exact QX.Idx TYok | exact QX.Conv TYok); exact rfl) | refine SX.Box TYok (h := ?_) | refine SC ?_ | (apply S_isnil TYok; exact rfl; exact rfl; exact rfl; exact Ev.auto; intro bn hnil) | refine SG ?_ | (refine W.condA (ht := fun hb => ?_) (hf := fun hb => ?_) <;> (try simp at hb) <;> (try (exfalso; omega))))
        refine ⟨(i + 1, u + pw i * nth D i), ⟨by omega, by rw [val_take hi, g2], by rw [g2]; exact hs.1, by rw [g2]; exact hs.2⟩, ?_, by (try simp only); omega⟩
        simp only [hwd, hor]
        exact Le.auto
    · obtain rfl : i = D.length := by omega
      rw [List.take_length, ev] at g2
      subst g2
      repeat' (first | ((first | apply U_ | (apply Ug_; exact rfl; exact rfl) | (apply Ugq_; exact rfl; exact rfl)); (first | exact QX.B TYok | exact QX.Len TYok | exact QX.Idx TYok | exact QX.Conv TYok | (apply Q_negw; exact Ev.auto)); exact rfl) | refine SX.Box TYok (h := ?_) | refine SC ?_ | (apply S_isnil TYok; exact rfl; exact rfl; exact rfl; exact Ev.auto; intro bn hnil) | refine SG ?_ | (refine W.condA (ht := fun hb => ?_) (hf := fun hb => ?_) <;> (try simp at hb) <;> (try (exfalso; omega))))
      · have e1 : IntKind.i64.wrap (IntKind.u64.wrap (0 - mag x)) = x := by rw [wrap_u64', IntKind.wrap_i64]; omega
        have hb2 : i64B x := by unfold i64B; omega
        rw [show intV x = IntKind.i64.wrap (IntKind.u64.wrap (0 - mag x)) by rw [e1]; exact if_pos hb2, decide_eq_true hb2]
        exact Fin.ret ResL.auto
      · have hb2 : i64B x := by unfold i64B; omega
        rw [show intV x = mag x by rw [show intV x = x from if_pos hb2]; omega, decide_eq_true hb2]
        exact Fin.ret ResL.auto
      · have hb2 : ¬ i64B x := by unfold i64B; omega
        rw [show intV x = 0 from if_neg hb2, decide_eq_false hb2]
        exact Fin.ret ResL.auto
end Go.Proofs.YtjedkgogjehigaaGreat
end
section
set_option linter.unusedVariables false
set_option linter.unusedSimpArgs false
set_option maxHeartbeats 8000000
set_option linter.unusedSectionVars false
namespace Go.Proofs.YtjedkgogjehigaaGreat
open Lf Go
attribute [local irreducible] PureOp EffOp Ev RG W Then InBlock Lf.Fin nth App InitE Pick SubE EvL EvD EvP EvR ResL Lf.Lex SubR SubBR RA RAll EvC FinO FinM ResM ResD FinS val pw digs trimL
theorem rightL_ok (s : Int) (l : List Int) (hl : l.length ≤ 9223372036854775807) : ACalls Tryz.prog 61 [aB s l] (.pv (cB (rightB s l))) := by
  refine ACalls.of_W (qs := [cB (rightB s l)]) [2] 49 Tryz.func61 (by kernel_rfl) rfl rfl rfl fun G => ?_
  refine W.initA (hw := ?_)
  repeat' (first | ((first | apply U_ | (apply Ug_; exact rfl; exact rfl) | (apply Ugq_; exact rfl; exact rfl)); (first | exact QX.B TYok | exact QX.Len TYok | exact QX.Idx TYok); exact rfl) | refine SX.Box TYok (h := ?_) | refine SC ?_ | (apply S_isnil TYok; exact rfl; exact rfl; exact rfl; exact Ev.auto; intro bn hnil) | refine SG ?_ | (refine W.condA (ht := fun hb => ?_) (hf := fun hb => ?_) <;> (try simp at hb) <;> (try (exfalso; omega))))
  apply W.loopP (σ := Nat) 49 [1, 3, 10, 11] (fun k => k ≤ l.length ∧ l.all digB = (l.drop k).all digB) (fun k => [(12, vI k)]) (fun _ => [(1, ⟨38, 2, [[.int .i64 s, .sl (l.map Lf.encI)]]⟩)]) (fun k => l.length - k) (0)
  case hp => repeat (first | exact Pick.nil | apply Pick.cons rfl)
  case h0 =>
    refine ⟨by simp, ?_⟩
    exact Le.auto
  case round =>
    rintro k ⟨g1, g2⟩
    apply W.norm (by repeat (first | exact App.nil | apply App.cons))
    by_cases hk : k < l.length
    · have e : l.all digB = (digB (nth l k) && (l.drop (k + 1)).all digB) := by rw [g2, drop_nth hk, List.all_cons]
      repeat' (first | ((first | apply U_ | (apply Ug_; exact rfl; exact rfl) | (apply Ugq_; exact rfl; exact rfl)); (first | exact QX.B TYok | exact QX.Len TYok | exact QX.Idx TYok); exact rfl) | refine SX.Box TYok (h := ?_) | refine SC ?_ | (apply S_isnil TYok; exact rfl; exact rfl; exact rfl; exact Ev.auto; intro bn hnil) | refine SG ?_ | (refine W.condA (ht := fun hb => ?_) (hf := fun hb => ?_) <;> (try simp at hb) <;> (try (exfalso; omega))))
      · have e2 : rightB s l = false := by
          rw [rightB, e, show digB (nth l k) = false by
            simp only [digB, Bool.and_eq_false_iff, decide_eq_false_iff_not]; omega]; rfl
        rw [e2]
        exact Fin.ret ResL.auto
      · refine ⟨k + 1, ⟨by omega, ?_⟩, ?_, by omega⟩
        · rw [e, show digB (nth l k) = true by
            simp only [digB, Bool.and_eq_true, decide_eq_true_iff]; omega]; rfl
        · exact Le.auto
    · obtain rfl : k = l.length := by omega
      have e : l.all digB = true := by rw [g2, List.drop_length]; rfl
      by_cases h0 : l.length = 0
      · have e2 : rightB s l = decide (s = 0) := by rw [rightB, e, if_pos h0]; rfl
        repeat' (first | ((first | apply U_ | (apply Ug_; exact rfl; exact rfl) | (apply Ugq_; exact rfl; exact rfl)); (first | exact QX.B TYok | exact QX.Len TYok | exact QX.Idx TYok); exact rfl) | refine SX.Box TYok (h := ?_) | refine SC ?_ | (apply S_isnil TYok; exact rfl; exact rfl; exact rfl; exact Ev.auto; intro bn hnil) | refine SG ?_ | (refine W.condA (ht := fun hb => ?_) (hf := fun hb => ?_) <;> (try simp at hb) <;> (try (exfalso; omega))))
        · rw [e2]
          exact Fin.ret ResL.auto
        · exact absurd (List.length_eq_zero_iff.1 h0) hb
      · have e2 : rightB s l = ((decide (s = 1) || decide (s = -1)) && decide ((l.length : Int) ≤ 60) && !decide (nth l ((l.length : Int) - 1).toNat = 0)) := by
          rw [rightB, e, if_neg h0, show ((l.length : Int) - 1).toNat = l.length - 1 by omega, show decide (l.length ≤ 60) = decide ((l.length : Int) ≤ 60) from decide_eq_decide.2 (by omega)]; rfl
        repeat' (first | ((first | apply U_ | (apply Ug_; exact rfl; exact rfl) | (apply Ugq_; exact rfl; exact rfl)); (first | exact QX.B TYok | exact QX.Len TYok | exact QX.Idx TYok); exact rfl) | refine SX.Box TYok (h := ?_) | refine SC ?_ | (apply S_isnil TYok; exact rfl; exact rfl; exact rfl; exact Ev.auto; intro bn hnil) | refine SG ?_ | (refine W.condA (ht := fun hb => ?_) (hf := fun hb => ?_) <;> (try simp at hb) <;> (try (exfalso; omega))))
        · exact absurd (by rw [hb]; rfl) h0
        · rw [e2]
          exact Fin.ret ResL.auto
theorem quo_pos {x y q r P : Int} (h : x = y * q + r) (hy : 0 < y) (h0 : 0 ≤ r) (h1 : r < y) (hx : -P < x ∧ x < P) : -P < q ∧ q < P := by
  constructor
  · by_cases hc : -P < q
    · exact hc
    · exfalso
      have e : (y - 1) * (-(q + 1)) = -(y * q) - y + q + 1 := by grind
      have := Int.mul_nonneg (show 0 ≤ y - 1 by omega) (show 0 ≤ -(q + 1) by omega)
      omega
  · by_cases hc : q < P
    · exact hc
    · exfalso
      have e : (y - 1) * q = y * q - q := by grind
      have := Int.mul_nonneg (show 0 ≤ y - 1 by omega) (show 0 ≤ q by omega)
      omega
theorem okZ_quo {x y : Int} (hx : okZ x) (h0 : y ≠ 0) : okZ (quoZ x y) := by
  have h1 := quo_rem x y
  have h2 := rem_rng (x := x) h0
  refine okZ.of ?_
  by_cases hp : 0 < y
  · exact quo_pos h1 hp (h2.1 hp).1 (h2.1 hp).2 hx.lt
  · have hn : y < 0 := by omega
    have := hx.lt
    refine quo_pos (x := -x) (y := -y) (r := -(remZ x y)) ?_ (by omega) (by have := h2.2 hn; omega) (by have := h2.2 hn; omega) (by omega)
    have e : -y * quoZ x y = -(y * quoZ x y) := by grind
    omega
theorem okZ_rem {x y : Int} (hy : okZ y) (h0 : y ≠ 0) : okZ (remZ x y) := by
  have h2 := rem_rng (x := x) h0
  have := hy.lt
  refine okZ.of ?_
  by_cases hp : 0 < y
  · have := h2.1 hp; omega
  · have := h2.2 (by omega); omega
theorem full_yes {z : Int} (h : okZ z) : fullZ z = z ∧ fullE z = 0 := ⟨if_pos h, if_pos h⟩
end Go.Proofs.YtjedkgogjehigaaGreat
end
section
set_option linter.unusedVariables false
set_option linter.unusedSimpArgs false
namespace Lf
open Go
def PN (A : St) : List Nat → List (Nat × (Prop × AV)) → List Nat → Prop
  | [], E, ns => E = [] ∧ ns = []
  | t :: ts, E, ns => PN A ts E ns ∨ ∃ q v E' ns', lk A.env t = some (q, v) ∧ E = (t, (q, v)) :: E' ∧ PN A ts E' ns' ∧
      match v with
      | .addr n _ _ | .slc n | .mp n | .mpn n _ | .pin n _ _ _ => ns = n :: ns'
      | .itr d n => ns = d :: n :: ns'
      | _ => ns = ns'
def PB (A : St) : List Nat → List (Nat × Blk) → Prop
  | [], bl => bl = []
  | n :: ns, bl => ∃ B bl', lk A.blks n = some B ∧ bl = (n, B) :: bl' ∧ PB A ns bl'
section
variable {A : St} {ts ns : List Nat} {t : Nat} {q : Prop} {E : List (Nat × (Prop × AV))} {bl : List (Nat × Blk)}
theorem PN.nil : PN A [] [] [] := ⟨rfl, rfl⟩
theorem PN.skip (h : PN A ts E ns) : PN A (t :: ts) E ns := .inl h
theorem PN.p {p : PV} (h : lk A.env t = some (q, .pv p)) (hr : PN A ts E ns) : PN A (t :: ts) ((t, (q, .pv p)) :: E) ns := .inr ⟨_, _, _, _, h, rfl, hr, rfl⟩
theorem PN.a {n i off : Nat} (h : lk A.env t = some (q, .addr n i off)) (hr : PN A ts E ns) : PN A (t :: ts) ((t, (q, .addr n i off)) :: E) (n :: ns) := .inr ⟨_, _, _, _, h, rfl, hr, rfl⟩
theorem PN.s {n : Nat} (h : lk A.env t = some (q, .slc n)) (hr : PN A ts E ns) : PN A (t :: ts) ((t, (q, .slc n)) :: E) (n :: ns) := .inr ⟨_, _, _, _, h, rfl, hr, rfl⟩
theorem PN.k {n b c : Nat} {f : Nat → Value} (h : lk A.env t = some (q, .pin n b c f)) (hr : PN A ts E ns) : PN A (t :: ts) ((t, (q, .pin n b c f)) :: E) (n :: ns) := .inr ⟨_, _, _, _, h, rfl, hr, rfl⟩
def NR (l m : List Cell) : Prop := l = m
theorem NR.nil {l : List Cell} (h : l = []) : NR l [] := h
theorem NR.cons {l r m : List Cell} {c : Cell} (h : l = c :: r) (h' : NR r m) : NR l (c :: m) := by
  have e : r = m := h'
  subst e; exact h
theorem PN.po {c : Cell} (h : lk A.env t = some (q, .pv (.one c))) (hr : PN A ts E ns) : PN A (t :: ts) ((t, (q, .pv (.one c))) :: E) ns := PN.p h hr
theorem PB.nil : PB A [] [] := rfl
theorem PB.one {n T sz : Nat} {B : Blk} {row row' : List Cell} (h : lk A.blks n = some B) (hT : B.E = T) (hs : B.sz = sz) (hrow : B.rows = [row]) (hr' : NR row row') (hr : PB A ns bl) : PB A (n :: ns) ((n, ⟨T, sz, [row']⟩) :: bl) := by
  have e : row = row' := hr'
  subst e
  obtain ⟨a, b, c⟩ := B
  simp only at hT hs hrow
  subst hT; subst hs; subst hrow
  exact ⟨_, _, h, rfl, hr⟩
theorem PB.cons {n T sz : Nat} {rows : List (List Cell)} (h : lk A.blks n = some ⟨T, sz, rows⟩) (hr : PB A ns bl) : PB A (n :: ns) ((n, ⟨T, sz, rows⟩) :: bl) := ⟨_, _, h, rfl, hr⟩
end
theorem PB.get {A : St} : ∀ {ns : List Nat} {bl : List (Nat × Blk)}, PB A ns bl → ∀ n ∈ ns, lk bl n = lk A.blks n
  | [], _, _, n, hn => by cases hn
  | m :: ns, _, ⟨B, bl', h1, rfl, h2⟩, n, hn => by
    rw [lk_cons]
    split
    · rename_i e; subst e; exact h1.symm
    · rename_i e
      rcases List.mem_cons.1 hn with rfl | hn
      · exact absurd rfl e
      · exact PB.get h2 n hn
theorem PB.sub {A : St} : ∀ {ns : List Nat} {bl : List (Nat × Blk)}, PB A ns bl → SubB A bl
  | [], _, h => by
    have e : _ = [] := h
    rw [e]; trivial
  | m :: ns, _, ⟨B, bl', h1, rfl, h2⟩ => ⟨h1, PB.sub h2⟩
theorem PN.sub {A : St} {bl : List (Nat × Blk)} : ∀ {ts : List Nat} {E : List (Nat × (Prop × AV))} {ns : List Nat}, PN A ts E ns → (∀ n ∈ ns, lk bl n = lk A.blks n) → SubE A bl E
  | [], _, _, h, _ => by
    obtain ⟨rfl, _⟩ := (h : _ = [] ∧ _ = [])
    trivial
  | t :: ts, E, ns, h, hn => by
    rcases (h : PN A ts E ns ∨ _) with h | ⟨q, v, E', ns', h1, rfl, h2, h3⟩
    · exact PN.sub h hn
    · refine ⟨⟨h1, ?_⟩, PN.sub h2 fun n hm => hn n ?_⟩
      · cases v with
        | pv p => trivial
        | tup l => trivial
        | top => trivial
        | addr n i off => exact hn n (by rw [show ns = n :: ns' from h3]; simp)
        | slc n => exact hn n (by rw [show ns = n :: ns' from h3]; simp)
        | mp n => exact hn n (by rw [show ns = n :: ns' from h3]; simp)
        | mpn n bb => exact hn n (by rw [show ns = n :: ns' from h3]; simp)
        | pin n b c f => exact hn n (by rw [show ns = n :: ns' from h3]; simp)
        | itr d n => exact ⟨hn d (by rw [show ns = d :: n :: ns' from h3]; simp), hn n (by rw [show ns = d :: n :: ns' from h3]; simp)⟩
      · cases v with
        | pv p => rw [show ns = ns' from h3]; exact hm
        | tup l => rw [show ns = ns' from h3]; exact hm
        | top => rw [show ns = ns' from h3]; exact hm
        | addr m i off => rw [show ns = m :: ns' from h3]; exact List.mem_cons_of_mem _ hm
        | slc m => rw [show ns = m :: ns' from h3]; exact List.mem_cons_of_mem _ hm
        | mp m => rw [show ns = m :: ns' from h3]; exact List.mem_cons_of_mem _ hm
        | mpn m bb => rw [show ns = m :: ns' from h3]; exact List.mem_cons_of_mem _ hm
        | pin m b c f => rw [show ns = m :: ns' from h3]; exact List.mem_cons_of_mem _ hm
        | itr d m => rw [show ns = d :: m :: ns' from h3]; exact List.mem_cons_of_mem _ (List.mem_cons_of_mem _ hm)
theorem W.purgeR {P : Program} {G : Ghost} {Q : Exit → St → Prop} {n id : Nat} {env : List (Nat × (Prop × AV))} {bl0 : List (Nat × Blk)} {ops : Array Oper} {late : Bool} {y : Code} {ts ns : List Nat} {E : List (Nat × (Prop × AV))} {bl : List (Nat × Blk)} (tab : List (Nat × List Nat)) (ht : lk tab id = some ts)
    (hp : PN (St.mk n env bl0) ts E ns) (hb : PB (St.mk n env bl0) ns bl) (hw : W P G (.region id ops late) (Then (W P G y Q) Q) (St.mk n E bl)) : W P G (.seq (.region id ops late) y) Q (St.mk n env bl0) :=
  W.seq (W.weaken (Le.mk (B := St.mk n E bl) rfl (PN.sub hp (PB.get hb)) (PB.sub hb)) hw)
attribute [irreducible] PN PB NR
end Lf
end
section
set_option linter.unusedVariables false
set_option linter.unusedSimpArgs false
namespace Lf
open Go Go.RowKit
abbrev EnvO := List (Option (Nat × (Prop × AV)))
/-- The values that have come up, pushed in the text's order; a store has none. -/
def eO (L : Nat → Bool) : Nat → EnvO → Env → Env
  | _, [], env => env
  | k, some x :: r, env => eO L (k + 1) r (if L k then x :: env else env)
  | k, none :: r, env => eO L (k + 1) r env
theorem eO_congr {L L' : Nat → Bool} {t : Nat} : ∀ (vals : EnvO) (k : Nat) (env env' : Env), lk env t = lk env' t → (∀ j x, vals[j]? = some (some x) → x.1 = t → L (k + j) = L' (k + j)) → lk (eO L k vals env) t = lk (eO L' k vals env') t
  | [], k, env, env', h, _ => h
  | none :: r, k, env, env', h, hj => by
    rw [eO, eO]
    exact eO_congr r (k + 1) _ _ h fun j y hy he => by have := hj (j + 1) y (by simpa using hy) he; rwa [show k + (j + 1) = k + 1 + j by omega] at this
  | some x :: r, k, env, env', h, hj => by
    rw [eO, eO]
    refine eO_congr r (k + 1) _ _ ?_ fun j y hy he => by have := hj (j + 1) y (by simpa using hy) he; rwa [show k + (j + 1) = k + 1 + j by omega] at this
    obtain ⟨t', e⟩ := x
    by_cases hx : t' = t
    · have := hj 0 (t', e) rfl hx
      simp only [Nat.add_zero] at this
      rw [this]
      split
      · rw [lk_cons, lk_cons, if_pos hx, if_pos hx]
      · exact h
    · split <;> split <;> simp [lk_cons, hx, h]
theorem eO_none : ∀ (vals : EnvO) (k : Nat) (env : Env), eO (fun _ => false) k vals env = env
  | [], _, _ => rfl
  | none :: r, k, env => by rw [eO]; exact eO_none r (k + 1) env
  | some x :: r, k, env => by rw [eO]; exact eO_none r (k + 1) env
theorem eO_past {m : Nat} : ∀ (r : EnvO) (k' : Nat) (env : Env), m ≤ k' → eO (fun j => decide (j < m)) k' r env = env
  | [], _, _, _ => rfl
  | none :: r, k', env, h => by rw [eO]; exact eO_past r _ _ (by omega)
  | some z :: r, k', env, h => by rw [eO, if_neg (by simp; omega)]; exact eO_past r _ _ (by omega)
theorem eO_lt : ∀ (vals : EnvO) (k i : Nat) (env : Env) (x : Nat × (Prop × AV)), vals[i]? = some (some x) → eO (fun j => decide (j < k + i + 1)) k vals env = x :: eO (fun j => decide (j < k + i)) k vals env
  | [], k, i, env, x, h => by simp at h
  | y :: r, k, 0, env, x, h => by
    simp at h; subst h
    rw [eO, eO, eO_past r (k + 1) _ (by omega), eO_past r (k + 1) _ (by omega), if_pos (by simp), if_neg (by simp)]
  | none :: r, k, i + 1, env, x, h => by
    rw [eO, eO]
    have := eO_lt r (k + 1) i env x (by simpa using h)
    rw [show k + 1 + i + 1 = k + (i + 1) + 1 by omega, show k + 1 + i = k + (i + 1) by omega] at this
    exact this
  | some y :: r, k, i + 1, env, x, h => by
    rw [eO, eO, if_pos (by simp; omega), if_pos (by simp)]
    have := eO_lt r (k + 1) i (y :: env) x (by simpa using h)
    rw [show k + 1 + i + 1 = k + (i + 1) + 1 by omega, show k + 1 + i = k + (i + 1) by omega] at this
    exact this
theorem eO_shift (L : Nat → Bool) : ∀ (vals : EnvO) (k : Nat) (env : Env), eO L (k + 1) vals env = eO (fun j => L (j + 1)) k vals env
  | [], _, _ => rfl
  | none :: r, k, env => by rw [eO, eO, eO_shift L r]
  | some x :: r, k, env => by rw [eO, eO, eO_shift L r]
def descB : Effs → Bool
  | [] => true
  | (e, (d, _)) :: r => r.all (fun y => !Nat.beq y.2.1 d || Nat.blt y.1 e) && descB r
theorem bL_congr {L L' : Nat → Bool} {bl : List (Nat × Blk)} {k : Nat} : ∀ effs : Effs, (∀ x ∈ effs, x.2.1 = k → L x.1 = L' x.1) → lk (bL L effs bl) k = lk (bL L' effs bl) k
  | [], _ => rfl
  | (e, (d, B)) :: r, h => by
    have ih := bL_congr (L := L) (L' := L') (bl := bl) (k := k) r fun x hx => h x (List.mem_cons_of_mem _ hx)
    rw [bL, bL]
    by_cases hd : d = k
    · rw [h (e, (d, B)) (by simp) hd]
      cases L' e
      · exact ih
      · simp only [cond_true, lk_cons, ih]
    · cases L e <;> cases L' e <;> simp only [cond_true, cond_false, lk_cons, if_neg hd, ih]
theorem bL_first {L : Nat → Bool} {bl : List (Nat × Blk)} {i d : Nat} {B : Blk} : ∀ effs : Effs, descB effs = true → (i, (d, B)) ∈ effs → L i = true → (∀ x ∈ effs, x.2.1 = d → i < x.1 → L x.1 = false) → (∀ x ∈ effs, x.1 = i → x = (i, (d, B))) → lk (bL L effs bl) d = some B
  | (e, (d', B')) :: r, hd, hm, hi, hl, hu => by
    rw [bL]
    by_cases he : e = i
    · have := hu (e, (d', B')) (by simp) he
      cases this
      rw [hi, cond_true, lk_cons, if_pos rfl]
    · have hm' : (i, (d, B)) ∈ r := by
        rcases List.mem_cons.1 hm with h | h
        · cases h; exact absurd rfl he
        · exact h
      rw [descB, Bool.and_eq_true] at hd
      have ih := bL_first (L := L) (bl := bl) r hd.2 hm' hi (fun x hx => hl x (List.mem_cons_of_mem _ hx)) (fun x hx => hu x (List.mem_cons_of_mem _ hx))
      cases hL : L e with
      | false => exact ih
      | true =>
        rw [cond_true, lk_cons]
        by_cases hdd : d' = d
        · exfalso
          have h1 := List.all_eq_true.1 hd.1 _ hm'
          rw [hdd] at h1
          simp only [Nat.beq_refl, Bool.not_true, Bool.false_or] at h1
          have h2 := hl (e, (d', B')) (by simp) hdd (blt_lt h1)
          rw [hL] at h2; cases h2
        · rw [if_neg hdd]; exact ih
/-- effect e has come, or comes only behind i -/
def gdE (ms : List Nat) (i my e : Nat) : Bool := bitN my e || bitN (ms.getD e 0) i
def cleanN (g : Nat → Bool) : Effs → Nat → Bool
  | [], _ => true
  | (e, (d, _)) :: r, k => (!Nat.beq d k || g e) && cleanN g r k
theorem cleanN_at {g : Nat → Bool} {k : Nat} : ∀ {effs : Effs}, cleanN g effs k = true → ∀ x ∈ effs, x.2.1 = k → g x.1 = true
  | (e, (d, B)) :: r, h, x, hx, hk => by
    rw [cleanN, Bool.and_eq_true] at h
    rcases List.mem_cons.1 hx with rfl | hx
    · have := h.1
      simp only at hk
      rw [hk] at this
      simpa using this
    · exact cleanN_at h.2 x hx hk
theorem cleanN_no {g : Nat → Bool} {k : Nat} : ∀ {effs : Effs}, cleanN g effs k = false → ∃ x ∈ effs, x.2.1 = k ∧ g x.1 = false
  | (e, (d, B)) :: r, h => by
    rw [cleanN, Bool.and_eq_false_iff] at h
    rcases h with h | h
    · simp only [Bool.or_eq_false_iff, Bool.not_eq_false'] at h
      exact ⟨_, List.mem_cons_self .., Nat.eq_of_beq_eq_true h.1, h.2⟩
    · obtain ⟨x, h1, h2⟩ := cleanN_no h
      exact ⟨x, List.mem_cons_of_mem _ h1, h2⟩
def filN (p : Nat → Bool) : List (Nat × Blk) → List (Nat × Blk)
  | [] => []
  | (k, B) :: r => bif p k then (k, B) :: filN p r else filN p r
theorem lk_filN {p : Nat → Bool} {k : Nat} : ∀ l : List (Nat × Blk), lk (filN p l) k = if p k = true then lk l k else none
  | [] => by simp [filN, lk]
  | (t, B) :: r => by
    have ih := lk_filN (p := p) (k := k) r
    rw [filN]
    by_cases h : t = k
    · subst h
      cases hp : p t <;> simp [ih, lk_cons, hp]
    · cases hp : p t <;> simp [ih, lk_cons, h]
/-- What an operation can lean on: the blocks that are as1 they will be. -/
def bM (ms : List Nat) (i my : Nat) (effs : Effs) (bl : List (Nat × Blk)) : List (Nat × Blk) := filN (cleanN (gdE ms i my) effs) (bL (bitN my) effs bl)
theorem lk_bM {ms : List Nat} {i my : Nat} {effs : Effs} {bl : List (Nat × Blk)} {k : Nat} : lk (bM ms i my effs bl) k = if cleanN (gdE ms i my) effs k = true then lk (bL (bitN my) effs bl) k else none := lk_filN _
def chainB (ms : List Nat) (effs : Effs) : Bool := effs.all fun x => effs.all fun y => !Nat.beq x.2.1 y.2.1 || !Nat.blt x.1 y.1 || bitN (ms.getD y.1 0) x.1
structure EffsS (ms : List Nat) (effs : Effs) : Prop where
  ix : ∀ e d B d' B', (e, (d, B)) ∈ effs → (e, (d', B')) ∈ effs → d = d' ∧ B = B'
  desc : descB effs = true
  chain : ∀ x ∈ effs, ∀ y ∈ effs, x.2.1 = y.2.1 → x.1 < y.1 → bitN (ms.getD y.1 0) x.1 = true
theorem EffsS.of {ms : List Nat} {effs : Effs} (h1 : ndB (effs.map (·.1)) = true) (h2 : descB effs = true) (h3 : chainB ms effs = true) : EffsS ms effs where
  ix e d B d' B' a b := by have := ndB_inj h1 _ a _ b rfl; cases this; exact ⟨rfl, rfl⟩
  desc := h2
  chain x hx y hy hd hlt := by
    have := List.all_eq_true.1 (List.all_eq_true.1 h3 x hx) y hy
    rw [hd, Nat.beq_refl] at this
    have hb : Nat.blt x.1 y.1 = true := by simp [Nat.blt_eq]; exact hlt
    rw [hb] at this
    simpa using this
def orderOkS (l : List Oper) (ms : List Nat) (tss : List (List Nat)) : Bool :=
  (List.range l.length).all fun y =>
    let o := l.getD y default
    let my := ms.getD y 0
    (deps o).all (fun j => Nat.blt j y) &&
    Nat.beq my ((deps o).foldl (fun s j => s ||| 2 ^ j ||| ms.getD j 0) 0) &&
    ((tss.getD y []).all (fun t => (looks l.toArray o).any (Nat.beq t) || unwr l t) && (List.range y).all (fun x => !clash l.toArray (l.getD x default) o || my.testBit x))
section
variable {l : List Oper} {ms : List Nat} {tss : List (List Nat)}
theorem orderOkS_at (h : orderOkS l ms tss = true) {y : Nat} {o : Oper} (hy : l[y]? = some o) :
    (∀ j ∈ deps o, j < y) ∧ (∀ j, (ms.getD y 0).testBit j = true → ∃ d ∈ deps o, j = d ∨ (ms.getD d 0).testBit j = true) ∧
    (∀ t ∈ tss.getD y [], t ∈ looks l.toArray o ∨ ∀ (j : Nat) (ox : Oper), l[j]? = some ox → ox.dst ≠ some t) ∧ ∀ x ox, x < y → l[x]? = some ox → clash l.toArray ox o = true → (ms.getD y 0).testBit x = true := by
  have hlt := (List.getElem?_eq_some_iff.1 hy).1
  have h0 := List.all_eq_true.1 h y (List.mem_range.2 hlt)
  have hg : l.getD y default = o := by simp [List.getD, hy]
  simp only [hg, Bool.and_eq_true] at h0
  obtain ⟨⟨h1, h2⟩, h3, h4⟩ := h0
  refine ⟨fun j hj => blt_lt (List.all_eq_true.1 h1 j hj), fun j hj => ?_, fun t ht => ?_, fun x ox hx hox hc => ?_⟩
  · rw [Nat.eq_of_beq_eq_true h2] at hj
    rcases fold_bit ms _ _ _ hj with h | h
    · simp at h
    · exact h
  · have h5 := List.all_eq_true.1 h3 t ht
    rw [Bool.or_eq_true] at h5
    rcases h5 with h5 | h5
    · obtain ⟨z, hz, he⟩ := List.any_eq_true.1 h5
      exact .inl (by rw [Nat.eq_of_beq_eq_true he]; exact hz)
    · exact .inr fun j ox hj => unwr_at h5 hj
  · have := List.all_eq_true.1 h4 x (List.mem_range.2 hx)
    have hgx : l.getD x default = ox := by simp [List.getD, hox]
    rw [hgx, hc] at this
    simpa using this
theorem closed_ancS (h : orderOkS l ms tss = true) {L : Nat → Bool} (hc : Closed l L) : ∀ (y : Nat) (o : Oper), l[y]? = some o → (∀ j ∈ deps o, L j = true) → ∀ x, (ms.getD y 0).testBit x = true → L x = true := by
  intro y
  induction y using Nat.strongRecOn with
  | _ y ih =>
    intro o hy hd x hx
    obtain ⟨h1, h2, _⟩ := orderOkS_at h hy
    obtain ⟨d, hd1, hd2⟩ := h2 x hx
    rcases hd2 with rfl | hd2
    · exact hd _ hd1
    · have hlt := h1 d hd1
      have hyl := (List.getElem?_eq_some_iff.1 hy).1
      have hdl : l[d]? = some (l[d]'(by omega)) := List.getElem?_eq_getElem _
      exact ih d hlt _ hdl (hc d _ hdl (hd d hd1)) x hd2
end
def FreshV (P : Program) (G : Ghost) (n : Nat) (E : Env) (o : Oper) (d : Nat) (B : Blk) (v : AV) : Prop :=
  ∀ E' bl', (∀ t e, lk E t = some e → lk E' t = some e) → lk bl' d = none → EffOp P G (St.mk n E' bl') o (St.mk n ((d, (True, v)) :: E') ((d, B) :: bl'))
def StoreV (P : Program) (G : Ghost) (n : Nat) (E : Env) (o : Oper) (d : Nat) (B B0 : Blk) : Prop :=
  ∀ E' bl', (∀ t e, lk E t = some e → lk E' t = some e) → lk bl' d = some B0 → EffOp P G (St.mk n E' bl') o (St.mk n E' ((d, B) :: bl'))
def StepS (P : Program) (G : Ghost) (ops : Array Oper) (n : Nat) (bl : List (Nat × Blk)) (effs : Effs) (M : List Nat) (i my : Nat) (E : Env) (o : Oper) (d : Nat) (p : Prop) (v : AV) : Prop :=
  (GOk (St.mk n E (bM M i my effs bl)) ops o p ∧ PureOp P G (St.mk n E (bM M i my effs bl)) o p v ∧ (∀ x ∈ effs, x.1 ≠ i) ∧ ∀ x ∈ effs, gdE M i my x.1 = false → ∀ t e, lk E t = some e → e.2.ment x.2.1 = false) ∨
  (GOk (St.mk n [] []) ops o True ∧ p = True ∧ ∃ B, (i, (d, B)) ∈ effs ∧ (∀ x ∈ effs, x.2.1 = d → ¬ x.1 < i) ∧ lk bl d = none ∧ FreshV P G n E o d B v)
def StepW (P : Program) (G : Ghost) (ops : Array Oper) (n : Nat) (bl : List (Nat × Blk)) (effs : Effs) (i : Nat) (E : Env) (o : Oper) : Prop :=
  GOk (St.mk n [] []) ops o True ∧ ∃ d B B0, (i, (d, B)) ∈ effs ∧ lk (bL (fun e => decide (e < i)) effs bl) d = some B0 ∧ StoreV P G n E o d B B0
def LexS (P : Program) (G : Ghost) (ops : Array Oper) (n : Nat) (bl : List (Nat × Blk)) (effs : Effs) (M : List Nat) : List Oper → Nat → List (List Nat) → List Nat → Env → (Env → Prop) → Prop
  | [], _, _, _, env, K => K env
  | o :: rest, i, tss, ms, env, K =>
    (∃ d p v, o.dst = some d ∧ d < n ∧ StepS P G ops n bl effs M i (ms.headD 0) (only (tss.headD []) env) o d p v ∧ LexS P G ops n bl effs M rest (i + 1) tss.tail ms.tail ((d, (p, v)) :: env) K) ∨
    (o.dst = none ∧ StepW P G ops n bl effs i (only (tss.headD []) env) o ∧ LexS P G ops n bl effs M rest (i + 1) tss.tail ms.tail env K)
section
variable {P : Program} {G : Ghost} {ops : Array Oper} {n : Nat} {bl : List (Nat × Blk)} {effs : Effs} {M : List Nat}
def StepAt (P : Program) (G : Ghost) (ops : Array Oper) (n : Nat) (bl : List (Nat × Blk)) (effs : Effs) (M : List Nat) (i k : Nat) (ms : List Nat) (tss : List (List Nat)) (vals : EnvO) (env : Env) (o : Oper) : Prop :=
  (∃ d p v, vals[k]? = some (some (d, (p, v))) ∧ o.dst = some d ∧ d < n ∧ StepS P G ops n bl effs M i (ms.getD k 0) (only (tss.getD k []) (eO (fun j => decide (j < k)) 0 vals env)) o d p v) ∨
  (vals[k]? = some none ∧ o.dst = none ∧ StepW P G ops n bl effs i (only (tss.getD k []) (eO (fun j => decide (j < k)) 0 vals env)) o)
theorem LexS.vals : ∀ {l : List Oper} {i0 : Nat} {tss : List (List Nat)} {ms : List Nat} {env : Env} {K : Env → Prop}, LexS P G ops n bl effs M l i0 tss ms env K →
    ∃ vals : EnvO, vals.length = l.length ∧ K (eO (fun _ => true) 0 vals env) ∧ ∀ k o, l[k]? = some o → StepAt P G ops n bl effs M (i0 + k) k ms tss vals env o
  | [], i0, tss, ms, env, K, h => ⟨[], rfl, h, fun i o hi => by simp at hi⟩
  | o :: rest, i0, tss, ms, env, K, h => by
    have ht : tss.getD 0 [] = tss.headD [] := by cases tss <;> rfl
    have hm : ms.getD 0 0 = ms.headD 0 := by cases ms <;> rfl
    have hts : ∀ i, tss.getD (i + 1) [] = tss.tail.getD i [] := fun i => by cases tss <;> simp
    have hms : ∀ i, ms.getD (i + 1) 0 = ms.tail.getD i 0 := fun i => by cases ms <;> simp
    have hfalse : (fun j => decide (j < 0)) = fun _ : Nat => false := by funext j; simp
    rcases h with ⟨d, p, v, h1, h2, h3, h5⟩ | ⟨h1, h3, h5⟩
    · obtain ⟨vals, g1, g2, g3⟩ := LexS.vals h5
      refine ⟨some (d, (p, v)) :: vals, by simp [g1], ?_, fun k o' hi => ?_⟩
      · rw [eO, if_pos rfl, eO_shift]; exact g2
      · cases k with
        | zero =>
          simp at hi; subst hi
          refine .inl ⟨d, p, v, rfl, h1, h2, ?_⟩
          rw [hfalse, eO_none, ht, hm]
          exact h3
        | succ k =>
          have := g3 k o' (by simpa using hi)
          unfold StepAt at this ⊢
          rw [hts, hms, eO, if_pos (by simp), eO_shift, show (fun j => decide (j + 1 < k + 1)) = fun j => decide (j < k) by funext j; simp, show i0 + (k + 1) = i0 + 1 + k by omega, List.getElem?_cons_succ]
          exact this
    · obtain ⟨vals, g1, g2, g3⟩ := LexS.vals h5
      refine ⟨none :: vals, by simp [g1], ?_, fun k o' hi => ?_⟩
      · rw [eO, eO_shift]; exact g2
      · cases k with
        | zero =>
          simp at hi; subst hi
          refine .inr ⟨rfl, h1, ?_⟩
          rw [hfalse, eO_none, ht]
          exact h3
        | succ k =>
          have := g3 k o' (by simpa using hi)
          unfold StepAt at this ⊢
          rw [hts, hms, eO, eO_shift, show (fun j => decide (j + 1 < k + 1)) = fun j => decide (j < k) by funext j; simp, show i0 + (k + 1) = i0 + 1 + k by omega, List.getElem?_cons_succ]
          exact this
theorem lexS {l : List Oper} {ms : List Nat} {tss : List (List Nat)} (hok : orderOkS l ms tss = true) {vals : EnvO} {env : Env} {Φ0 : Frz} {Q' : Exit → Act → World → Prop} (hvl : vals.length = l.length) (ho : EffsS ms effs)
    (hv : ∀ i o, l[i]? = some o → StepAt P G l.toArray n bl effs ms i i ms tss vals env o)
    (hin : ∀ x ∈ effs, x.1 < l.length)
    (hq : ∀ Φ' β' a' w', Sat G Φ' β' (St.mk n (eO (fun _ => true) 0 vals env) (bL (fun _ => true) effs bl)) a' w' → Φ0.le Φ' → Q' .normal a' w') :
    ∀ (fuel : Nat) (L : Array Bool) (Φ : Frz) (β : Own) (a : Act) (w : World), fuel = un (fun j => L.getD j true) l.length → L.size = l.length → Closed l (fun j => L.getD j false) → Φ0.le Φ →
      Sat G Φ β (St.mk n (eO (fun j => L.getD j false) 0 vals env) (bL (fun j => L.getD j false) effs bl)) a w → wpAny P .any l.toArray Q' fuel L a w := by
  intro fuel
  induction fuel with
  | zero =>
    intro L Φ β a w hf hs hcl hle hsat
    have hall := un_zero _ hf.symm
    have hallf : ∀ j, j < l.length → L.getD j false = true := fun j hj => by
      have := hall j hj
      rw [Array.getD_eq_getD_getElem?, Array.getElem?_eq_getElem (by omega)] at this ⊢; exact this
    have hb : ∀ k, lk (bL (fun _ => true) effs bl) k = lk (bL (fun j => L.getD j false) effs bl) k := fun k => bL_congr effs fun x hx _ => (hallf x.1 (hin x hx)).symm
    refine ⟨List.eq_nil_iff_forall_not_mem.2 fun i hi => ?_, hq Φ β a w (hsat.subB (fun k C hk => by rw [← hb]; exact hk) fun t q v h => ⟨?_, fun k hk => hb k⟩) hle⟩
    · obtain ⟨o, h1, h2, _⟩ := mem_ready' hi
      have := hall i (List.getElem?_eq_some_iff.1 h1).1
      rw [h2] at this; cases this
    · rw [← h]
      refine eO_congr vals 0 env env rfl fun j x hj hx => ?_
      have hjl : j < l.length := by have := (List.getElem?_eq_some_iff.1 hj).1; omega
      simp only [Nat.zero_add]; exact hallf j hjl
  | succ fuel ih =>
    intro L Φ β a w hf hs hcl hle hsat
    have hLf : ∀ j, j < l.length → L.getD j false = L.getD j true := fun j hj => by
      rw [Array.getD_eq_getD_getElem?, Array.getD_eq_getD_getElem?, Array.getElem?_eq_getElem (by omega)]; rfl
    have hpre : ¬ ∀ j, j < l.length → L.getD j true = true := fun h => by
      rw [un_congr (L' := fun _ => true) _ (fun j hj => h j hj)] at hf
      have : ∀ k, un (fun _ => true) k = 0 := fun k => by induction k with | zero => rfl | succ k ihk => rw [un, ihk]; rfl
      rw [this] at hf; omega
    have hex : ∃ y, y < l.length ∧ L.getD y true = false ∧ ∀ j, j < y → L.getD j true = true := by
      have : ∃ j, j < l.length ∧ L.getD j true = false := by
        refine Classical.byContradiction fun hno => hpre fun j hj => ?_
        cases hb : L.getD j true with
        | true => rfl
        | false => exact absurd ⟨j, hj, hb⟩ hno
      obtain ⟨j0, hj0, hb0⟩ := this
      have key : ∀ k, k ≤ l.length → (∀ j, j < k → L.getD j true = true) ∨ ∃ y, y < l.length ∧ L.getD y true = false ∧ ∀ j, j < y → L.getD j true = true := by
        intro k
        induction k with
        | zero => intro _; exact .inl fun j hj => by omega
        | succ k ihk =>
          intro hk
          rcases ihk (by omega) with h | h
          · cases hb : L.getD k true with
            | true =>
              refine .inl fun j hj => ?_
              by_cases e : j = k
              · rw [e]; exact hb
              · exact h j (by omega)
            | false => exact .inr ⟨k, by omega, hb, h⟩
          · exact .inr h
      rcases key l.length (Nat.le_refl _) with h | h
      · have := h j0 hj0; rw [hb0] at this; cases this
      · exact h
    obtain ⟨y, hylen, hyu, hyl⟩ := hex
    refine ⟨fun hr => ?_, fun i hi => ?_⟩
    · exfalso
      have hmem : y ∈ Region.ready .any l.toArray L := ready_mk (o := l[y]) (List.getElem?_eq_getElem _) hyu (fun j hj => by
        have := (orderOkS_at hok (List.getElem?_eq_getElem hylen)).1 j hj
        rw [hLf j (by omega)]; exact hyl j this)
      rw [hr] at hmem; cases hmem
    · obtain ⟨o, h1, h2, h3⟩ := mem_ready' hi
      have hil := (List.getElem?_eq_some_iff.1 h1).1
      obtain ⟨_, _, hlooks, hord⟩ := orderOkS_at hok h1
      have hLi : L.getD i false = false := by rw [hLf i hil]; exact h2
      have anc : ∀ e, bitN (ms.getD i 0) e = true → L.getD e false = true := fun e he => closed_ancS hok hcl i o h1 h3 e (by rw [← bitN_eq]; exact he)
      have later : ∀ x ∈ effs, ∀ d B, (i, (d, B)) ∈ effs → x.2.1 = d → i < x.1 → L.getD x.1 false = false := fun x hx d B hB hd hlt => by
        cases hb : L.getD x.1 false with
        | false => rfl
        | true =>
          have hxl := hin x hx
          have hox : l[x.1]? = some (l[x.1]'hxl) := List.getElem?_eq_getElem _
          have hc := ho.chain (i, (d, B)) hB x hx hd.symm hlt
          have := closed_ancS hok hcl x.1 _ hox (hcl x.1 _ hox hb) i (by rw [← bitN_eq]; exact hc)
          have this : L.getD i false = true := this
          rw [hLi] at this; cases this
      have earlier : ∀ x ∈ effs, ∀ d B, (i, (d, B)) ∈ effs → x.2.1 = d → x.1 < i → L.getD x.1 false = true := fun x hx d B hB hd hlt => anc _ (ho.chain x hx (i, (d, B)) hB hd hlt)
      have same : ∀ x ∈ effs, ∀ d B, (i, (d, B)) ∈ effs → x.1 = i → x = (i, (d, B)) := fun x hx d B hB he => by
        obtain ⟨e, d', B'⟩ := x
        simp only at he; subst he
        obtain ⟨h4, h5⟩ := ho.ix _ _ _ _ _ hx hB
        rw [h4, h5]
      -- who writes what this operation looks at
      have before : ∀ j x, vals[j]? = some (some x) → (x.1 ∈ looks l.toArray o ∨ o.dst = some x.1) → j ≠ i → L.getD j false = decide (j < i) := fun j x hj hx hne => by
        have hjl : j < l.length := by have := (List.getElem?_eq_some_iff.1 hj).1; omega
        have hoj : l[j]? = some l[j] := List.getElem?_eq_getElem _
        have q2 : (l[j]).dst = some x.1 := by
          rcases hv j l[j] hoj with ⟨dj, pj, vj, q1, q2, _⟩ | ⟨q1, _⟩
          · rw [hj] at q1
            obtain rfl := Option.some.inj (Option.some.inj q1)
            exact q2
          · rw [hj] at q1; cases q1
        rcases Nat.lt_or_ge j i with hlt | hge
        · have hc : clash l.toArray l[j] o = true := by
            unfold clash
            rw [q2]
            rcases hx with hx | hx
            · have : (looks l.toArray o).any (Nat.beq x.1) = true := List.any_eq_true.2 ⟨x.1, hx, Nat.beq_refl _⟩
              simp [this]
            · rw [hx]; simp
          have := closed_ancS hok hcl i o h1 h3 j (hord j _ hlt hoj hc)
          have this : L.getD j false = true := this
          rw [this]; simp [hlt]
        · have hgt : i < j := by omega
          have hc : clash l.toArray o l[j] = true := by
            unfold clash
            rw [q2]
            rcases hx with hx | hx
            · have : (looks l.toArray o).any (Nat.beq x.1) = true := List.any_eq_true.2 ⟨x.1, hx, Nat.beq_refl _⟩
              simp [this]
            · rw [hx]; simp
          cases hb : L.getD j false with
          | false => simp; omega
          | true =>
            exfalso
            have hordj := (orderOkS_at hok hoj).2.2.2 i o hgt h1 hc
            have := closed_ancS hok hcl j _ hoj (hcl j _ hoj hb) i hordj
            have this : L.getD i false = true := this
            rw [hLi] at this; cases this
      have hsame : ∀ t e, lk (only (tss.getD i []) (eO (fun j => decide (j < i)) 0 vals env)) t = some e → lk (eO (fun j => L.getD j false) 0 vals env) t = some e := fun t e h => by
        obtain ⟨ht, he⟩ := lk_only h
        rw [← he]
        refine eO_congr vals 0 env env rfl fun j x hj hx => ?_
        simp only [Nat.zero_add]
        by_cases hji : j = i
        · subst hji; rw [hLi]; simp
        · rcases hlooks t ht with hl1 | hl2
          · exact before j x hj (.inl (by rw [hx]; exact hl1)) hji
          · exfalso
            have hjl : j < l.length := by have := (List.getElem?_eq_some_iff.1 hj).1; omega
            have hoj : l[j]? = some (l[j]'hjl) := List.getElem?_eq_getElem _
            rcases hv j _ hoj with ⟨dj, pj, vj, q1, q2, _⟩ | ⟨q1, _⟩
            · rw [hj] at q1
              obtain rfl := Option.some.inj (Option.some.inj q1)
              exact hl2 j _ hoj (by rw [q2]; simp only at hx; rw [hx])
            · rw [hj] at q1; cases q1
      have hne : ∀ j, j ≠ i → ∀ b, (L.setIfInBounds i true).getD j b = L.getD j b := fun j hj b => getD_set_ne b (Ne.symm hj)
      have heq : ∀ b, (L.setIfInBounds i true).getD i b = true := fun b => by rw [Array.getD_eq_getD_getElem?, Array.getElem?_setIfInBounds_self_of_lt (by omega)]; rfl
      have next : ∀ (Φ' : Frz) (β' : Own) (a' : Act) (w' : World) (env' : Env) (bl' : List (Nat × Blk)), Φ.le Φ' → Sat G Φ' β' (St.mk n env' bl') a' w' → (∀ t e, lk (eO (fun j => (L.setIfInBounds i true).getD j false) 0 vals env) t = some e → lk env' t = some e) → (∀ k, lk (bL (fun j => (L.setIfInBounds i true).getD j false) effs bl) k = lk bl' k) → wpAny P .any l.toArray Q' fuel (L.setIfInBounds i true) a' w' := fun Φ' β' a' w' env' bl' hle' hsat' henv hbl => by
        refine ih _ Φ' β' a' w' ?_ (by simpa using hs) (fun y' o' hy' hL' j hj => ?_) (Frz.le_trans hle hle') (hsat'.subB (fun k C h => by rw [← hbl]; exact h) fun t q v' h => ⟨henv t _ h, fun k _ => hbl k⟩)
        · have := un_set (L := fun j => L.getD j true) (L' := fun j => (L.setIfInBounds i true).getD j true) (i := i) h2 (heq true) (fun j hj => hne j hj true) l.length hil
          omega
        · by_cases e1 : j = i
          · subst e1; exact heq false
          · show (L.setIfInBounds i true).getD j false = true
            rw [hne j e1]
            by_cases e2 : y' = i
            · subst e2
              rw [h1] at hy'
              obtain rfl := Option.some.inj hy'
              exact h3 j hj
            · have hL'' : L.getD y' false = true := by rw [← hne y' e2 false]; exact hL'
              exact hcl y' o' hy' hL'' j hj
      have hnil : Sat G Φ β (St.mk n [] []) a w := hsat.subB (fun k C h => by simp [lk] at h) (fun t q v h => by simp [lk] at h)
      -- the blocks when effect i has come
      have hblE : ∀ d B, (i, (d, B)) ∈ effs → ∀ k, lk (bL (fun j => (L.setIfInBounds i true).getD j false) effs bl) k = lk ((d, B) :: bL (fun j => L.getD j false) effs bl) k := fun d B hB k => by
        rw [lk_cons]
        by_cases e : d = k
        · subst e
          rw [if_pos rfl]
          refine bL_first effs ho.desc hB (heq false) (fun x hx hd hlt => ?_) (fun x hx he => same x hx d B hB he)
          show (L.setIfInBounds i true).getD x.1 false = false
          rw [hne x.1 (by omega)]
          exact later x hx d B hB hd hlt
        · rw [if_neg e]
          refine bL_congr effs fun x hx hd => ?_
          refine hne x.1 (fun he => ?_) false
          have := same x hx d B hB he
          rw [this] at hd
          exact e hd
      unfold wpOp
      have hio : l.toArray[i]? = some o := by simpa using h1
      simp only [hio]
      rcases hv i o h1 with ⟨d, p, v, g1, g2, g3, g4⟩ | ⟨g1, g2, hg, d, B, B0, hB, hB0, hst⟩
      · have envn : ∀ t e, lk (eO (fun j => (L.setIfInBounds i true).getD j false) 0 vals env) t = some e → lk ((d, (p, v)) :: eO (fun j => L.getD j false) 0 vals env) t = some e := fun t e h => by
          by_cases e1 : t = d
          · subst e1
            have hl1 : lk (eO (fun j => (L.setIfInBounds i true).getD j false) 0 vals env) t = lk (eO (fun j => decide (j < 0 + i + 1)) 0 vals env) t := eO_congr vals 0 env env rfl fun j x hj hx => by
              simp only [Nat.zero_add]
              by_cases hji : j = i
              · subst hji; rw [heq]; simp
              · rw [hne j hji, before j x hj (.inr (by rw [g2, hx])) hji]
                simp only [decide_eq_decide]; omega
            rw [hl1, eO_lt vals 0 i env _ g1, lk_cons, if_pos rfl] at h
            rw [lk_cons, if_pos rfl]; exact h
          · rw [lk_cons, if_neg (Ne.symm e1), ← h]
            refine eO_congr vals 0 env env rfl fun j x hj hx => ?_
            simp only [Nat.zero_add]
            by_cases hji : j = i
            · subst hji
              rw [hj] at g1
              obtain rfl := Option.some.inj (Option.some.inj g1)
              exact absurd hx.symm e1
            · rw [hne j hji]
        rcases g4 with ⟨g4, g5, hoff, g6⟩ | ⟨hg, rfl, B, hB, hfst, hfr, hfresh⟩
        · have full : ∀ k, cleanN (gdE ms i (ms.getD i 0)) effs k = true → lk (bL (bitN (ms.getD i 0)) effs bl) k = lk (bL (fun j => L.getD j false) effs bl) k := fun k hk => bL_congr effs fun x hx hd => by
            have := cleanN_at hk x hx hd
            unfold gdE at this
            cases hb : bitN (ms.getD i 0) x.1 with
            | true => rw [anc _ hb]
            | false =>
              rw [hb, Bool.false_or] at this
              cases hL : L.getD x.1 false with
              | false => rfl
              | true =>
                have hxl := hin x hx
                have hox : l[x.1]? = some (l[x.1]'hxl) := List.getElem?_eq_getElem _
                have := closed_ancS hok hcl x.1 _ hox (hcl x.1 _ hox hL) i (by rw [← bitN_eq]; exact this)
                have this : L.getD i false = true := this
                rw [hLi] at this; cases this
          have incl : ∀ k C, lk (bM ms i (ms.getD i 0) effs bl) k = some C → lk (bL (fun j => L.getD j false) effs bl) k = some C := fun k C hk => by
            rw [lk_bM] at hk
            split at hk
            · rename_i hc; rw [← full k hc]; exact hk
            · cases hk
          have hsub : Sat G Φ β (St.mk n (only (tss.getD i []) (eO (fun j => decide (j < i)) 0 vals env)) (bM ms i (ms.getD i 0) effs bl)) a w := hsat.subB incl fun t q v hl => ⟨hsame t _ hl, fun k hk => by
            cases hc : cleanN (gdE ms i (ms.getD i 0)) effs k with
            | true => rw [lk_bM, if_pos hc]; exact full k hc
            | false =>
              obtain ⟨x, hx, hd, hb⟩ := cleanN_no hc
              have := g6 x hx hb t _ hl
              rw [hd, hk] at this; cases this⟩
          have hw := g4 G Φ β a w hsub
          have hbl : ∀ k, lk (bL (fun j => (L.setIfInBounds i true).getD j false) effs bl) k = lk (bL (fun j => L.getD j false) effs bl) k := fun k => bL_congr effs fun x hx _ => hne x.1 (hoff x hx) false
          by_cases hpp : p
          · rw [if_pos (hw.2 hpp)]
            refine .inl (Oper.wp_mono' (g5 Φ β a w hsub hpp) (fun a' w' ⟨x, Φ', ha, hvv, hle', heq', hf', hb⟩ => ?_) (fun _ _ _ h => h.elim))
            subst ha
            rw [g2]
            exact next Φ' β _ w' _ _ hle' (hsat.set hle' heq' hf' hb g3 (fun _ => hvv.sup incl) (fun hx => (hx hpp).elim)) envn hbl
          · rw [if_neg (fun hx => hpp (hw.1 hx)), g2]
            exact next Φ β _ w _ _ Φ.le_refl (hsat.set Φ.le_refl (fun _ _ => rfl) hsat.fits (Below.refl _ _) g3 (fun hx => (hpp hx).elim) (fun _ => rfl)) envn hbl
        · rw [if_pos ((hg G Φ β a w hnil).2 trivial)]
          have hnone : lk (bL (fun j => L.getD j false) effs bl) d = none := by
            rw [bL_congr (L' := fun _ => false) effs fun x hx hd => ?_, show bL (fun _ => false) effs bl = bl by rw [bL_eq, List.filter_eq_nil_iff.2 fun x _ => by simp]; rfl]
            · exact hfr
            · have h6 := hfst x hx hd
              by_cases h7 : x.1 = i
              · rw [h7]; exact hLi
              · exact later x hx d B hB hd (by omega)
          refine .inl (Oper.wp_mono' (hfresh _ _ hsame hnone Φ β a w hsat) (fun a' w' ⟨Φ', β', hs', hle'⟩ => ?_) (fun _ _ _ h => h.elim))
          exact next Φ' β' a' w' _ _ hle' hs' envn (hblE d B hB)
      · rw [if_pos ((hg G Φ β a w hnil).2 trivial)]
        have hB0' : lk (bL (fun j => L.getD j false) effs bl) d = some B0 := by
          rw [← hB0]
          refine bL_congr effs fun x hx hd => ?_
          by_cases h7 : x.1 < i
          · rw [earlier x hx d B hB hd h7]; simp [h7]
          · by_cases h8 : x.1 = i
            · rw [h8, hLi]; simp
            · rw [later x hx d B hB hd (by omega)]; simp [h7]
        refine .inl (Oper.wp_mono' (hst _ _ hsame hB0' Φ β a w hsat) (fun a' w' ⟨Φ', β', hs', hle'⟩ => ?_) (fun _ _ _ h => h.elim))
        refine next Φ' β' a' w' _ _ hle' hs' (fun t e h => ?_) (hblE d B hB)
        rw [← h]
        refine eO_congr vals 0 env env rfl fun j x hj hx => ?_
        simp only [Nat.zero_add]
        by_cases hji : j = i
        · subst hji; rw [hj] at g1; cases g1
        · rw [hne j hji]
def fndE : Effs → Nat → Option (Nat × Blk)
  | [], _ => none
  | (e, x) :: r, i => bif Nat.beq e i then some x else fndE r i
theorem fndE_mem {i : Nat} {x : Nat × Blk} : ∀ {effs : Effs}, fndE effs i = some x → (i, x) ∈ effs
  | (e, y) :: r, h => by
    rw [fndE] at h
    cases hb : Nat.beq e i with
    | true =>
      rw [hb, cond_true] at h
      cases h
      rw [Nat.eq_of_beq_eq_true hb]; simp
    | false =>
      rw [hb, cond_false] at h
      exact List.mem_cons_of_mem _ (fndE_mem h)
def fstB (effs : Effs) (i d : Nat) : Bool := effs.all fun x => !Nat.beq x.2.1 d || !Nat.blt x.1 i
theorem fst_of {i d : Nat} (h : fstB effs i d = true) : ∀ x ∈ effs, x.2.1 = d → ¬ x.1 < i := fun x hx hd hlt => by
  have := List.all_eq_true.1 h x hx
  have hb : Nat.blt x.1 i = true := by simp [Nat.blt_eq]; exact hlt
  rw [hd, Nat.beq_refl, hb] at this
  simp at this
def cleanG (g : Nat → Bool) : Effs → Env → Bool
  | [], _ => true
  | (e, (d, _)) :: r, E => (g e || noMent d E) && cleanG g r E
theorem cleanG_of {g : Nat → Bool} {E : Env} : ∀ {effs : Effs}, cleanG g effs E = true → ∀ x ∈ effs, g x.1 = false → ∀ t e, lk E t = some e → e.2.ment x.2.1 = false
  | (e0, (d0, B0)) :: r, h, x, hx, hb, t, e, hl => by
    rw [cleanG, Bool.and_eq_true] at h
    rcases List.mem_cons.1 hx with rfl | hx
    · have h1 := h.1
      simp only at hb
      rw [hb, Bool.false_or, noMent_eq] at h1
      have := List.all_eq_true.1 h1 _ (lk_mem hl)
      simpa using this
    · exact cleanG_of h.2 x hx hb t e hl
def NB (l m : List (Nat × Blk)) : Prop := l = m
theorem NB.nil {l : List (Nat × Blk)} (h : l = []) : NB l [] := h
theorem NB.cons {l r m : List (Nat × Blk)} {x : Nat × Blk} (h : l = x :: r) (h' : NB r m) : NB l (x :: m) := by
  have e : r = m := h'
  subst e; exact h
theorem LexS.nil {i : Nat} {tss : List (List Nat)} {ms : List Nat} {env : Env} {K : Env → Prop} (h : K env) : LexS P G ops n bl effs M [] i tss ms env K := h
theorem LexS.u {i my d : Nat} {op : Op} {ty : TypeId} {pos : String} {after : Array Edge} {ts : List Nat} {tss : List (List Nat)} {ms : List Nat} {rest : List Oper} {env : Env} {K : Env → Prop} {v : AV}
    {bE : List (Nat × Blk)} (hb : NB (bM M i my effs bl) bE) (hp : PureOp P G (St.mk n (only ts env) bE) ⟨some d, op, ty, pos, after, none⟩ True v) (hn : Nat.blt d n = true) (ho : offB effs i = true) (hc : cleanG (gdE M i my) effs (only ts env) = true) (h : LexS P G ops n bl effs M rest (i + 1) tss ms ((d, (True, v)) :: env) K) : LexS P G ops n bl effs M (⟨some d, op, ty, pos, after, none⟩ :: rest) i (ts :: tss) (my :: ms) env K :=
  .inl ⟨d, True, v, rfl, blt_lt hn, .inl ⟨GOk.none rfl, by have e : bM M i my effs bl = bE := hb; subst e; exact hp, off_of ho, cleanG_of hc⟩, h⟩
/-- new memory -/
theorem LexS.f {i my d : Nat} {B : Blk} {op : Op} {ty : TypeId} {pos : String} {after : Array Edge} {ts : List Nat} {tss : List (List Nat)} {ms : List Nat} {rest : List Oper} {env : Env} {K : Env → Prop} {v : AV}
    (hk : fndE effs i = some (d, B)) (hp : FreshV P G n (only ts env) ⟨some d, op, ty, pos, after, none⟩ d B v) (hn : Nat.blt d n = true) (h1 : fstB effs i d = true) (h2 : lk bl d = none) (h : LexS P G ops n bl effs M rest (i + 1) tss ms ((d, (True, v)) :: env) K) : LexS P G ops n bl effs M (⟨some d, op, ty, pos, after, none⟩ :: rest) i (ts :: tss) (my :: ms) env K :=
  .inl ⟨d, True, v, rfl, blt_lt hn, .inr ⟨GOk.none rfl, rfl, B, fndE_mem hk, fst_of h1, h2, hp⟩, h⟩
/-- a store -/
theorem LexS.s {i my d : Nat} {B B0 : Blk} {op : Op} {ty : TypeId} {pos : String} {after : Array Edge} {ts : List Nat} {tss : List (List Nat)} {ms : List Nat} {rest : List Oper} {env : Env} {K : Env → Prop}
    (hk : fndE effs i = some (d, B)) (hB0 : lk (bL (fun e => Nat.blt e i) effs bl) d = some B0) (hp : StoreV P G n (only ts env) ⟨none, op, ty, pos, after, none⟩ d B B0) (h : LexS P G ops n bl effs M rest (i + 1) tss ms env K) : LexS P G ops n bl effs M (⟨none, op, ty, pos, after, none⟩ :: rest) i (ts :: tss) (my :: ms) env K :=
  .inr ⟨rfl, ⟨GOk.none rfl, d, B, B0, fndE_mem hk, by
    rw [← hB0]
    exact bL_congr effs fun x _ _ => by
      by_cases h : x.1 < i
      · have hb : Nat.blt x.1 i = true := by simp [Nat.blt_eq]; exact h
        rw [hb]; simp [h]
      · have hb : Nat.blt x.1 i = false := by
          cases hb : Nat.blt x.1 i with
          | false => rfl
          | true => exact absurd (blt_lt hb) h
        rw [hb]; simp [h], hp⟩, h⟩
theorem Ev.more {E E' : Env} {b b' : List (Nat × Blk)} {p : Prop} {x : Operand} {v : AV} (h : ∀ t e, lk E t = some e → lk E' t = some e) : Ev (St.mk n E b) p x v → Ev (St.mk n E' b') p x v := fun ⟨q, h1, h2⟩ => ⟨q, by
  cases x with
  | tmp t => exact h t _ h1
  | const v => exact h1
  | func f => exact h1
  | global g => exact h1, h2⟩
theorem FreshV.alloc {T : Nat → Option TI} (hT : TOK P T) {E : Env} {B : Blk} {t d : Nat} {ti : TI} {ty : TypeId} {pos : String} {after : Array Edge} {gd : Option (Nat × Bool)} (ht : T t = some ti) (hz : ti.zero.cells.length = ti.sz) (hn : Nat.blt d n = true) (hB : (⟨t, ti.sz, [ti.zero.cells]⟩ : Blk) = B) :
    FreshV P G n E ⟨some d, .alloc t, ty, pos, after, gd⟩ d B (.addr d 0 0) := fun E' bl' hs hfr => by
  subst hB
  exact EffOp.fresh hfr (E_alloc hT rfl rfl (blt_lt hn) ht hz)
theorem StoreV.mk {T : Nat → Option TI} (hT : TOK P T) {E : Env} {B B0 : Blk} {t d i off : Nat} {x y : Operand} {ti : TI} {r : List Cell} {q : PV} {ty : TypeId} {pos : String} {after : Array Edge} {gd : Option (Nat × Bool)} (hx : Ev (St.mk n E []) True x (.addr d i off)) (hy : Ev (St.mk n E []) True y (.pv q)) (ht : T t = some ti) (hr : B0.rows[i]? = some r)
    (hq : q.cells.length = ti.sz) (hfit : Nat.ble (off + ti.sz) r.length = true) (hB : ({ B0 with rows := B0.rows.set i (splice r off q.cells) } : Blk) = B) : StoreV P G n E ⟨none, .store t x y, ty, pos, after, gd⟩ d B B0 := fun E' bl' hs hl => by
  subst hB
  exact E_store hT rfl rfl ht (hx.more hs) (hy.more hs) hl hr hq (Nat.le_of_ble_eq_true hfit)
/-- A REGION WHOSE ORDER IS OPEN, with new memory and stores, walked once in the text's order. -/
def descI : List (Nat × Nat) → Bool
  | [] => true
  | (e, d) :: r => r.all (fun y => !Nat.beq y.2 d || Nat.blt y.1 e) && descI r
theorem descB_of : ∀ effs : Effs, descI (effs.map fun x => (x.1, x.2.1)) = true → descB effs = true
  | [], _ => rfl
  | (e, (d, B)) :: r, h => by
    rw [List.map_cons, descI, Bool.and_eq_true] at h
    rw [descB, Bool.and_eq_true]
    refine ⟨?_, descB_of r h.2⟩
    have := h.1
    rw [List.all_map] at this
    exact this
def chainI (ms : List Nat) (ixs : List (Nat × Nat)) : Bool := ixs.all fun x => ixs.all fun y => !Nat.beq x.2 y.2 || !Nat.blt x.1 y.1 || bitN (ms.getD y.1 0) x.1
def sOk (l : List Oper) (ms : List Nat) (tss : List (List Nat)) (ixs : List (Nat × Nat)) : Bool :=
  orderOkS l ms tss && ndB (ixs.map (·.1)) && descI ixs && chainI ms ixs && ixs.all (fun x => Nat.blt x.1 l.length)
theorem W.drawS {id : Nat} {l : List Oper} {env : Env} {Q : Exit → St → Prop} (ms : List Nat) (tss : List (List Nat)) (effs : Effs) (ixs : List (Nat × Nat)) (hm : P.follows .mixedOrders = true) (hk : sOk l ms tss ixs = true) (hix : effs.map (fun x => (x.1, x.2.1)) = ixs)
    (h : LexS P G l.toArray n bl effs ms l 0 tss ms env fun env' => Q .normal (St.mk n env' (effs.map (·.2) ++ bl))) : W P G (.region id l.toArray true) Q (St.mk n env bl) := fun Φ β a w hs => by
  unfold sOk at hk
  simp only [Bool.and_eq_true] at hk
  obtain ⟨⟨⟨⟨hok, h1⟩, h2⟩, h3⟩, h4⟩ := hk
  subst hix
  have h1' : ndB (effs.map (·.1)) = true := by rw [List.map_map] at h1; exact h1
  have h3' : chainB ms effs = true := by
    unfold chainI at h3
    rw [List.all_map] at h3
    refine List.all_eq_true.2 fun x hx => ?_
    have := List.all_eq_true.1 h3 x hx
    simp only [Function.comp] at this
    rw [List.all_map] at this
    exact this
  have h4' : effs.all (fun x => Nat.blt x.1 l.length) = true := by rw [List.all_map] at h4; exact h4
  obtain ⟨vals, v1, v2, v3⟩ := LexS.vals h
  refine wp_region_any hm ?_
  have hsz : l.toArray.size = l.length := by simp
  rw [hsz]
  have hall : bL (fun _ => true) effs bl = effs.map (·.2) ++ bl := by rw [bL_eq, List.filter_eq_self.2 fun x _ => rfl]
  refine lexS hok v1 (EffsS.of h1' (descB_of effs h2) h3') (fun i o ho => ?_) (fun x hx => blt_lt (List.all_eq_true.1 h4' x hx)) (Φ0 := Φ) (fun Φ' β' a' w' q le => ⟨_, Φ', β', v2, by rw [← hall]; exact q, le⟩) l.length (Array.replicate l.length false) Φ β a { w with drawn := w.drawn + 1 } ?_ (by simp) (fun y o hy hL => ?_) Φ.le_refl ?_
  · have := v3 i o ho
    rwa [Nat.zero_add] at this
  · have : un (fun j => (Array.replicate l.length false).getD j true) l.length = un (fun j => decide (j < 0)) l.length := un_congr _ fun j hj => by simp [hj]
    rw [this, un_lt _ (Nat.zero_le _)]; omega
  · have : (Array.replicate l.length false).getD y false = true := hL
    rw [Array.getD_eq_getD_getElem?, Array.getElem?_replicate] at this
    split at this <;> simp at this
  · have hf : ∀ j, (Array.replicate l.length false).getD j false = false := fun j => by
      rw [Array.getD_eq_getD_getElem?, Array.getElem?_replicate]
      split <;> rfl
    have hnone : (fun j => (Array.replicate l.length false).getD j false) = fun _ => false := funext hf
    rw [hnone, eO_none]
    have hb : bL (fun _ => false) effs bl = bl := by rw [bL_eq, List.filter_eq_nil_iff.2 fun x _ => by simp]; rfl
    rw [hb]
    exact ⟨hs.kept.drew, hs.fits, hs.old, hs.siz, hs.dfr, hs.env, hs.blk, hs.vir, hs.inj⟩
end
attribute [irreducible] LexS FreshV StoreV NB
end Lf
end
section
set_option linter.unusedVariables false
set_option linter.unusedSimpArgs false
set_option maxHeartbeats 8000000
set_option linter.unusedSectionVars false
namespace Go.Proofs.YtjedkgogjehigaaGreat
open Lf Go
attribute [local irreducible] PureOp EffOp Ev RG W Then InBlock Lf.Fin nth App InitE Pick SubE EvL EvD EvP EvR ResL Lf.Lex SubR SubBR RA RAll EvC FinO FinM ResM ResD FinS val pw digs trimL
section
abbrev fB (s : Int) (l : List Int) (s' : Int) (l' : List Int) : PV := .agg [.int .i64 s, .sl (l.map Lf.encI), .int .i64 s', .sl (l'.map Lf.encI)]
abbrev zF2 (p q : Int) : PV := fB (sgn p) (digs (mag p)) (sgn q) (digs (mag q))
abbrev zF (r : Rat) : PV := zF2 r.num r.den
abbrev zF0 : PV := fB 0 [] 0 []
theorem zeroSubF : PSub (.agg [.int .i64 0, .slnil, .int .i64 0, .slnil]) zF0 := ⟨.refl _, .nil, .refl _, .nil, trivial⟩
def okF (r : Rat) : Prop := okZ r.num ∧ okZ r.den
theorem den_pos (r : Rat) : (0 : Int) < r.den := by have := r.den_nz; omega
theorem den_ne (r : Rat) : (r.den : Int) ≠ 0 := by have := r.den_nz; omega
theorem quo_pos' {x g : Int} (h : 0 < g) : quoZ x g = x / g := if_pos h
theorem gcd_pos {x y : Int} (hy : y ≠ 0) : 0 < gcdZ x y := by
  unfold gcdZ
  have : Int.gcd x y ≠ 0 := fun h => hy (Int.gcd_eq_zero_iff.1 h).2
  omega
theorem divInt_pos {x y : Int} (hy : 0 < y) : (Rat.divInt x y).num = quoZ x (gcdZ x y) ∧ ((Rat.divInt x y).den : Int) = quoZ y (gcdZ x y) := by
  have hg := gcd_pos (x := x) (show y ≠ 0 by omega)
  rw [quo_pos' hg, quo_pos' hg, Rat.num_divInt, Rat.den_divInt, if_neg (by omega), Int.sign_eq_one_of_pos hy, Int.one_mul, Int.gcd_comm]
  refine ⟨rfl, ?_⟩
  unfold gcdZ
  rw [Int.natCast_ediv]
  congr 1
  omega
theorem divInt_flip (x y : Int) : Rat.divInt (-x) (-y) = Rat.divInt x y := by
  by_cases hy : y = 0
  · subst hy
    rw [Int.neg_zero, Rat.divInt_zero, Rat.divInt_zero]
  · have := Rat.divInt_mul_left (n := x) (d := y) (a := -1) (by decide)
    rw [← this]
    congr 1 <;> omega
theorem num_den_gcd (r : Rat) : gcdZ r.num r.den = 1 := by
  have := r.reduced
  unfold gcdZ
  exact congrArg (fun n : Nat => (n : Int)) this
theorem rat_of {x y : Int} (hy : 0 < y) (hg : gcdZ x y = 1) : (Rat.divInt x y).num = x ∧ ((Rat.divInt x y).den : Int) = y := by
  obtain ⟨h1, h2⟩ := divInt_pos (x := x) hy
  rw [hg] at h1 h2
  rw [h1, h2, quo_pos' (by decide), quo_pos' (by decide)]
  omega
theorem rat_add (a b : Rat) : a + b = Rat.divInt (a.num * b.den + b.num * a.den) (a.den * b.den) := by
  have := Rat.divInt_add_divInt a.num b.num (d₁ := a.den) (d₂ := b.den) (den_ne a) (den_ne b)
  rwa [Rat.num_divInt_den, Rat.num_divInt_den] at this
theorem rat_mul (a b : Rat) : a * b = Rat.divInt (a.num * b.num) (a.den * b.den) := by
  have := Rat.divInt_mul_divInt a.num b.num (d₁ := a.den) (d₂ := b.den)
  rwa [Rat.num_divInt_den, Rat.num_divInt_den] at this
theorem rat_div (a b : Rat) (h : b.num ≠ 0) : a / b = Rat.divInt (a.num * b.den) (a.den * b.num) := by
  rw [Rat.div_def, Rat.inv_def]
  have := Rat.divInt_mul_divInt a.num b.den (d₁ := a.den) (d₂ := b.num)
  rwa [Rat.num_divInt_den] at this
theorem quo_le {x g : Int} (hg : 0 < g) : mag (quoZ x g) ≤ mag x := by
  rw [quo_pos' hg]
  have h1 := sgn_cases x
  have h2 := sgn_cases (x / g)
  have h3 : x = g * (x / g) + x % g := (Int.mul_ediv_add_emod x g).symm
  have h4 := Int.emod_nonneg x (show g ≠ 0 by omega)
  have h5 := Int.emod_lt_of_pos x hg
  by_cases hx : 0 ≤ x
  · have := Int.ediv_nonneg hx (show 0 ≤ g by omega)
    have := Int.ediv_le_self g hx
    omega
  · have h6 : x / g < 0 := Int.ediv_neg_of_neg_of_pos (by omega) hg
    have h7 : x ≤ x / g := by
      rw [Int.le_ediv_iff_mul_le hg]
      have := Int.mul_le_mul_of_nonneg_left (show 1 ≤ g by omega) (show 0 ≤ -x by omega)
      have e : x * g = -(-x * g) := by grind
      omega
    omega
/-- what a fraction of two numbers is not greater than -/
theorem divInt_le {x y : Int} (hy : y ≠ 0) : mag (Rat.divInt x y).num ≤ mag x ∧ mag (Rat.divInt x y).den ≤ mag y := by
  by_cases h : 0 < y
  · obtain ⟨h1, h2⟩ := divInt_pos (x := x) h
    have hg := gcd_pos (x := x) hy
    rw [h1, h2]
    exact ⟨quo_le hg, quo_le hg⟩
  · obtain ⟨h1, h2⟩ := divInt_pos (x := -x) (y := -y) (by omega)
    rw [divInt_flip] at h1 h2
    have hg := gcd_pos (x := -x) (y := -y) (by omega)
    rw [h1, h2]
    have e1 : mag (-x) = mag x := by have := sgn_cases x; have := sgn_cases (-x); omega
    have e2 : mag (-y) = mag y := by have := sgn_cases y; have := sgn_cases (-y); omega
    have := quo_le (x := -x) hg
    have := quo_le (x := -y) hg
    omega
theorem okF_of {x y : Int} (hx : okZ x) (hy : okZ y) (h0 : y ≠ 0) : okF (Rat.divInt x y) := by
  obtain ⟨h1, h2⟩ := divInt_le (x := x) h0
  unfold okF okZ at *
  omega
attribute [local irreducible] sgn mag gcdZ quoZ remZ fullZ fullE
def rightFB (s : Int) (l : List Int) (s' : Int) (l' : List Int) : Bool := rightB s l && rightB s' l' && decide (s' = 1) && decide (gcdZ (s * val l) (val l') = 1)
theorem one_ok (x : Int) (hx : okZ x) : ACalls Tryz.prog 63 [zB x] (.pv (cB (decide (x = 1)))) := by
  have h1 := intZ_ok x hx
  by_cases hi : i64B x
  · rw [show intV x = x from if_pos hi, decide_eq_true hi] at h1
    refine ACalls.of_W (qs := [cB (decide (x = 1))]) [2] 15 Tryz.func63 (by kernel_rfl) rfl rfl rfl fun G => ?_
    refine W.initA (hw := ?_)
    repeat' (first | ((first | apply U_ | (apply Ug_; exact rfl; exact rfl) | (apply Ugq_; exact rfl; exact rfl)); (first | exact QX.B TYok | exact QX.Ext TYok | exact QCd (h1)); exact rfl) | refine SX.Box TYok (h := ?_) | refine SC ?_ | (apply S_isnil TYok; exact rfl; exact rfl; exact rfl; exact Ev.auto; intro bn hnil) | refine SG ?_ | (refine W.condA (ht := fun hb => ?_) (hf := fun hb => ?_) <;> (try simp at hb) <;> (try (exfalso; omega))))
    all_goals exact Fin.ret ResL.auto
  · rw [show intV x = 0 from if_neg hi, decide_eq_false hi] at h1
    have e : ¬ x = 1 := fun h => hi (by unfold i64B; omega)
    rw [decide_eq_false e]
    refine ACalls.of_W (qs := [cB false]) [2] 15 Tryz.func63 (by kernel_rfl) rfl rfl rfl fun G => ?_
    refine W.initA (hw := ?_)
    repeat' (first | ((first | apply U_ | (apply Ug_; exact rfl; exact rfl) | (apply Ugq_; exact rfl; exact rfl)); (first | exact QX.B TYok | exact QX.Ext TYok | exact QCd (h1)); exact rfl) | refine SX.Box TYok (h := ?_) | refine SC ?_ | (apply S_isnil TYok; exact rfl; exact rfl; exact rfl; exact Ev.auto; intro bn hnil) | refine SG ?_ | (refine W.condA (ht := fun hb => ?_) (hf := fun hb => ?_) <;> (try simp at hb) <;> (try (exfalso; omega))))
    all_goals exact Fin.ret ResL.auto
theorem fright_ok (s : Int) (l : List Int) (s' : Int) (l' : List Int) (hl : l.length ≤ 9223372036854775807) (hl' : l'.length ≤ 9223372036854775807) : ACalls Tryz.prog 41 [fB s l s' l'] (.pv (cB (rightFB s l s' l'))) := by
  have r1 := rightL_ok s l hl
  have r2 := rightL_ok s' l' hl'
  by_cases hw : (rightB s l = true ∧ rightB s' l' = true) ∧ s' = 1
  case neg =>
    have e : rightFB s l s' l' = false := by
      unfold rightFB
      cases h1 : rightB s l <;> cases h2 : rightB s' l' <;> simp_all
    rw [e]
    generalize rightB s l = b1 at r1 hw
    generalize rightB s' l' = b2 at r2 hw
    refine ACalls.of_W (qs := [cB false]) [2] 35 Tryz.func41 (by kernel_rfl) rfl rfl rfl fun G => ?_
    refine W.initA (hw := ?_)
    repeat' (first | ((first | apply U_ | (apply Ug_; exact rfl; exact rfl) | (apply Ugq_; exact rfl; exact rfl)); (first | exact QX.B TYok | exact QX.Ext TYok | exact QCd (r1) | exact QCd (r2)); exact rfl) | refine SX.Alloc TYok (h := ?_) | refine SX.Store TYok (h := ?_) | refine SX.Box TYok (h := ?_) | refine SC ?_ | (apply S_isnil TYok; exact rfl; exact rfl; exact rfl; exact Ev.auto; intro bn hnil) | refine SG ?_ | (refine W.condA (ht := fun hb => ?_) (hf := fun hb => ?_) <;> (try simp at hb) <;> (try (exfalso; first | exact hw hb | omega))))
    all_goals exact Fin.ret ResL.auto
  obtain ⟨⟨q1, q2⟩, h1⟩ := hw
  have e : rightFB s l s' l' = decide (gcdZ (s * val l) (val l') = 1) := by unfold rightFB; rw [q1, q2, decide_eq_true h1]; simp
  rw [e]
  rw [q1] at r1
  rw [q2] at r2
  obtain ⟨x, ox, rfl, rfl⟩ := right_num q1
  obtain ⟨y, oy, rfl, rfl⟩ := right_num q2
  have cy := sgn_cases y
  have ey : val (digs (mag y)) = y := by rw [val_mag]; omega
  have ex : sgn x * val (digs (mag x)) = x := by rw [val_mag, sgn_mag]
  rw [ex, ey]
  have g1 := gcdZ_ok x y ox oy
  have o1 := one_ok _ (gcd_lt ox oy)
  generalize gcdZ x y = g at *
  refine ACalls.of_W (qs := [cB (decide (g = 1))]) [2] 35 Tryz.func41 (by kernel_rfl) rfl rfl rfl fun G => ?_
  refine W.initA (hw := ?_)
  repeat' (first | ((first | apply U_ | (apply Ug_; exact rfl; exact rfl) | (apply Ugq_; exact rfl; exact rfl)); (first | exact QX.B TYok | exact QX.Ext TYok | exact QCd (r1) | exact QCd (r2) | exact QCd (g1) | exact QCd (o1)); exact rfl) | refine SX.Alloc TYok (h := ?_) | refine SX.Store TYok (h := ?_) | refine SX.Box TYok (h := ?_) | refine SC ?_ | (apply S_isnil TYok; exact rfl; exact rfl; exact rfl; exact Ev.auto; intro bn hnil) | refine SG ?_ | (refine W.condA (ht := fun hb => ?_) (hf := fun hb => ?_) <;> (try simp at hb) <;> (try (exfalso; omega))))
  all_goals exact Fin.ret ResL.auto
theorem fright_yes (r : Rat) (h : okF r) : ACalls Tryz.prog 41 [zF r] (.pv (cB true)) := by
  have hp := den_pos r
  have := fright_ok (sgn r.num) (digs (mag r.num)) (sgn r.den) (digs (mag r.den)) (by have := num_len h.1; omega) (by have := num_len h.2; omega)
  have e : rightFB (sgn r.num) (digs (mag r.num)) (sgn r.den) (digs (mag r.den)) = true := by
    unfold rightFB
    have c := sgn_cases r.den
    rw [num_right h.1, num_right h.2, decide_eq_true (show sgn r.den = 1 by omega), val_mag, val_mag, sgn_mag, show mag r.den = r.den by omega, num_den_gcd]; rfl
  rwa [e] at this
theorem frac_of {s s' : Int} {l l' : List Int} (h : rightFB s l s' l' = true) : ∃ r : Rat, okF r ∧ s = sgn r.num ∧ l = digs (mag r.num) ∧ s' = sgn r.den ∧ l' = digs (mag r.den) := by
  unfold rightFB at h
  simp only [Bool.and_eq_true, decide_eq_true_iff] at h
  obtain ⟨⟨⟨q1, q2⟩, h1⟩, hg⟩ := h
  obtain ⟨x, ox, rfl, rfl⟩ := right_num q1
  obtain ⟨y, oy, rfl, rfl⟩ := right_num q2
  have cy := sgn_cases y
  rw [val_mag, val_mag, sgn_mag, show mag y = y by omega] at hg
  obtain ⟨h3, h4⟩ := rat_of (x := x) (y := y) (by omega) hg
  exact ⟨Rat.divInt x y, ⟨by rw [h3]; exact ox, by rw [h4]; exact oy⟩, by rw [h3], by rw [h3], by rw [h4], by rw [h4]⟩
theorem new_pos (x y : Int) (hx : okZ x) (hy : okZ y) (h0 : 0 < y) : ACalls Tryz.prog 65 [zB x, zB y] (.tup [zF2 (quoZ x (gcdZ x y)) (quoZ y (gcdZ x y)), cI 0]) := by
  have r1 := right_yes hx
  have r2 := right_yes hy
  have cy := sgn_cases y
  have hg := gcd_pos (x := x) (show y ≠ 0 by omega)
  have og := gcd_lt hx hy
  have g1 := gcdZ_ok x y hx hy
  have d1 := divZ_ok x (gcdZ x y) hx og (by omega)
  have d2 := divZ_ok y (gcdZ x y) hy og (by omega)
  generalize quoZ x (gcdZ x y) = a at *
  generalize quoZ y (gcdZ x y) = b at *
  generalize gcdZ x y = g at *
  refine ACalls.of_M TYok (qs := [zF2 a b, cI 0]) [.cell 4 40, .tmp 5] 60 Tryz.func65 (by kernel_rfl) rfl rfl rfl fun G => ?_
  refine W.initA (hw := ?_)
  repeat' (first | ((first | apply U_ | (apply Ug_; exact rfl; exact rfl) | (apply Ugq_; exact rfl; exact rfl) | apply Lex.u | (apply Lex.g; exact rfl; exact rfl) | (apply Lex.gq; exact rfl; exact rfl)); (first | exact QX.B TYok | exact QX.Ext TYok | exact QX.Build TYok | exact QCd (r1) | exact QCd (r2) | exact QCd (g1) | exact QCd (d1) | exact QCd (d2)); exact rfl) | refine SX.Alloc TYok (h := ?_) | refine SX.Store TYok (h := ?_) | refine SX.Box TYok (h := ?_) | refine SC ?_ | (apply S_isnil TYok; exact rfl; exact rfl; exact rfl; exact Ev.auto; intro bn hnil) | refine SG ?_ | (apply W.draw2 (id := 6) [0, 1, 0, 7, 15, 31] [[2], [33], [3], [35]] 4 [(33, 4), (34, 8589934592), (35, 8), (36, 34359738368)] mixed (by kernel_rfl) rfl rfl) | (refine W.condA (ht := fun hb => ?_) (hf := fun hb => ?_) <;> (try simp at hb) <;> (try (exfalso; omega))))
  all_goals exact FinM.ret ResM.auto
end
section
attribute [local irreducible] sgn mag gcdZ quoZ remZ fullZ fullE
theorem full_no {z : Int} (h : ¬ okZ z) : fullZ z = 0 ∧ fullE z = 6 := by
  unfold fullZ fullE
  exact ⟨if_neg h, if_neg h⟩
theorem new_neg (x y : Int) (hx : okZ x) (hy : okZ y) (h0 : y < 0) : ACalls Tryz.prog 65 [zB x, zB y] (.tup [zF2 (quoZ (-x) (gcdZ (-x) (-y))) (quoZ (-y) (gcdZ (-x) (-y))), cI 0]) := by
  have r1 := right_yes hx
  have r2 := right_yes hy
  have cy := sgn_cases y
  have n1 := neg_ok x hx
  have n2 := neg_ok y hy
  have ox := okZ_neg hx
  have oy := okZ_neg hy
  have hg := gcd_pos (x := -x) (show -y ≠ 0 by omega)
  have og := gcd_lt ox oy
  have g1 := gcdZ_ok (-x) (-y) ox oy
  have d1 := divZ_ok (-x) (gcdZ (-x) (-y)) ox og (by omega)
  have d2 := divZ_ok (-y) (gcdZ (-x) (-y)) oy og (by omega)
  generalize quoZ (-x) (gcdZ (-x) (-y)) = a at *
  generalize quoZ (-y) (gcdZ (-x) (-y)) = b at *
  generalize gcdZ (-x) (-y) = g at *
  refine ACalls.of_M TYok (qs := [zF2 a b, cI 0]) [.cell 4 40, .tmp 5] 60 Tryz.func65 (by kernel_rfl) rfl rfl rfl fun G => ?_
  refine W.initA (hw := ?_)
  repeat' (first | ((first | apply U_ | (apply Ug_; exact rfl; exact rfl) | (apply Ugq_; exact rfl; exact rfl) | apply Lex.u | (apply Lex.g; exact rfl; exact rfl) | (apply Lex.gq; exact rfl; exact rfl)); (first | exact QX.B TYok | exact QX.Ext TYok | exact QX.Build TYok | exact QCd (r1) | exact QCd (r2) | exact QCd (n1) | exact QCd (n2) | exact QCd (g1) | exact QCd (d1) | exact QCd (d2)); exact rfl) | refine SX.Alloc TYok (h := ?_) | refine SX.Store TYok (h := ?_) | refine SX.Box TYok (h := ?_) | refine SC ?_ | (apply S_isnil TYok; exact rfl; exact rfl; exact rfl; exact Ev.auto; intro bn hnil) | refine SG ?_ | (apply W.draw2 (id := 6) [0, 1, 0, 7, 15, 31] [[2], [33], [3], [35]] 4 [(33, 4), (34, 8589934592), (35, 8), (36, 34359738368)] mixed (by kernel_rfl) rfl rfl) | (refine W.condA (ht := fun hb => ?_) (hf := fun hb => ?_) <;> (try simp at hb) <;> (try (exfalso; omega))))
  all_goals exact FinM.ret ResM.auto
theorem new_ok (x y : Int) (hx : okZ x) (hy : okZ y) (h0 : y ≠ 0) : ACalls Tryz.prog 65 [zB x, zB y] (.tup [zF (Rat.divInt x y), cI 0]) := by
  by_cases h : 0 < y
  · obtain ⟨e1, e2⟩ := divInt_pos (x := x) h
    have := new_pos x y hx hy h
    rwa [← e1, ← e2] at this
  · obtain ⟨e1, e2⟩ := divInt_pos (x := -x) (y := -y) (by omega)
    have := new_neg x y hx hy (by omega)
    rw [← e1, ← e2, divInt_flip] at this
    exact this
def sumOk (a b c d : Int) : Prop := okZ (a * b) ∧ okZ (c * d) ∧ okZ (a * b + c * d)
theorem sum_yes (a b c d : Int) (ha : okZ a) (hb : okZ b) (hc : okZ c) (hd : okZ d) (h : sumOk a b c d) : ACalls Tryz.prog 100 [zB a, zB b, zB c, zB d] (.tup [zB (a * b + c * d), cI 0]) := by
  obtain ⟨h1, h2, h3⟩ := h
  have m1 := mulZ_ok a b ha hb
  rw [(full_yes h1).1, (full_yes h1).2] at m1
  have m2 := mulZ_ok c d hc hd
  rw [(full_yes h2).1, (full_yes h2).2] at m2
  have a1 := addZ_ok (a * b) (c * d) h1 h2
  rw [(full_yes h3).1, (full_yes h3).2] at a1
  refine ACalls.of_M TYok (qs := [zB (a * b + c * d), cI 0]) [.cell 8 38, .tmp 9] 38 Tryz.func100 (by kernel_rfl) rfl rfl rfl fun G => ?_
  refine W.initA (hw := ?_)
  repeat' (first | ((first | apply U_); (first | exact QX.B TYok | exact QX.Ext TYok | exact QX.Build TYok | exact QCd (m1) | exact QCd (m2) | exact QCd (a1)); exact rfl) | refine SX.Alloc TYok (h := ?_) | refine SX.Store TYok (h := ?_) | refine SX.Box TYok (h := ?_) | refine SC ?_ | (refine W.condA (ht := fun hb => ?_) (hf := fun hb => ?_) <;> (try simp at hb) <;> (try (exfalso; omega))))
  all_goals exact FinM.ret ResM.auto
theorem sum_no (a b c d : Int) (ha : okZ a) (hb : okZ b) (hc : okZ c) (hd : okZ d) (h : ¬ sumOk a b c d) : ACalls Tryz.prog 100 [zB a, zB b, zB c, zB d] (.tup [zB 0, cI 6]) := by
  have m1 := mulZ_ok a b ha hb
  have m2 := mulZ_ok c d hc hd
  by_cases h1 : okZ (a * b)
  · rw [(full_yes h1).1, (full_yes h1).2] at m1
    by_cases h2 : okZ (c * d)
    · rw [(full_yes h2).1, (full_yes h2).2] at m2
      have h3 : ¬ okZ (a * b + c * d) := fun q => h ⟨h1, h2, q⟩
      have a1 := addZ_ok (a * b) (c * d) h1 h2
      rw [(full_no h3).1, (full_no h3).2] at a1
      refine ACalls.of_M TYok (qs := [zB 0, cI 6]) [.cell 8 38, .tmp 9] 38 Tryz.func100 (by kernel_rfl) rfl rfl rfl fun G => ?_
      refine W.initA (hw := ?_)
      repeat' (first | ((first | apply U_); (first | exact QX.B TYok | exact QX.Ext TYok | exact QX.Build TYok | exact QCd (m1) | exact QCd (m2) | exact QCd (a1)); exact rfl) | refine SX.Alloc TYok (h := ?_) | refine SX.Store TYok (h := ?_) | refine SX.Box TYok (h := ?_) | refine SC ?_ | (refine W.condA (ht := fun hb => ?_) (hf := fun hb => ?_) <;> (try simp at hb) <;> (try (exfalso; omega))))
      all_goals exact FinM.ret ResM.auto
    · rw [(full_no h2).1, (full_no h2).2] at m2
      refine ACalls.of_M TYok (qs := [zB 0, cI 6]) [.cell 8 38, .tmp 9] 38 Tryz.func100 (by kernel_rfl) rfl rfl rfl fun G => ?_
      refine W.initA (hw := ?_)
      repeat' (first | ((first | apply U_); (first | exact QX.B TYok | exact QX.Ext TYok | exact QX.Build TYok | exact QCd (m1) | exact QCd (m2)); exact rfl) | refine SX.Alloc TYok (h := ?_) | refine SX.Store TYok (h := ?_) | refine SX.Box TYok (h := ?_) | refine SC ?_ | (refine W.condA (ht := fun hb => ?_) (hf := fun hb => ?_) <;> (try simp at hb) <;> (try (exfalso; omega))))
      all_goals exact FinM.ret (ResM.cell rfl rfl rfl rfl zeroSubZ (ResM.tmp rfl rfl PSub.rfl' ResM.nil))
  · rw [(full_no h1).1, (full_no h1).2] at m1
    refine ACalls.of_M TYok (qs := [zB 0, cI 6]) [.cell 8 38, .tmp 9] 38 Tryz.func100 (by kernel_rfl) rfl rfl rfl fun G => ?_
    refine W.initA (hw := ?_)
    repeat' (first | ((first | apply U_); (first | exact QX.B TYok | exact QX.Ext TYok | exact QX.Build TYok | exact QCd (m1)); exact rfl) | refine SX.Alloc TYok (h := ?_) | refine SX.Store TYok (h := ?_) | refine SX.Box TYok (h := ?_) | refine SC ?_ | (refine W.condA (ht := fun hb => ?_) (hf := fun hb => ?_) <;> (try simp at hb) <;> (try (exfalso; omega))))
    all_goals exact FinM.ret (ResM.cell rfl rfl rfl rfl zeroSubZ (ResM.tmp rfl rfl PSub.rfl' ResM.nil))
theorem quot_yes (p q : Int) (hp : okZ p) (hq : okZ q) (h0 : q ≠ 0) : ACalls Tryz.prog 102 [zB p, cI 0, zB q, cI 0] (.tup [zF (Rat.divInt p q), cI 0]) := by
  have n1 := new_ok p q hp hq h0
  generalize Rat.divInt p q = r at *
  refine ACalls.of_M TYok (qs := [zF r, cI 0]) [.cell 8 40, .tmp 9] 22 Tryz.func102 (by kernel_rfl) rfl rfl rfl fun G => ?_
  refine W.initA (hw := ?_)
  repeat' (first | ((first | apply U_ | (apply Ug_; exact rfl; exact rfl) | (apply Ugq_; exact rfl; exact rfl)); (first | exact QX.B TYok | exact QX.Ext TYok | exact QX.Build TYok | exact QCd (n1)); exact rfl) | refine SX.Alloc TYok (h := ?_) | refine SX.Store TYok (h := ?_) | refine SX.Box TYok (h := ?_) | refine SC ?_ | refine SG ?_ | (refine W.condA (ht := fun hb => ?_) (hf := fun hb => ?_) <;> (try simp at hb) <;> (try (exfalso; omega))))
  all_goals exact FinM.ret ResM.auto
theorem quot_no (p e q f : Int) (h : e ≠ 0 ∨ f ≠ 0) : ACalls Tryz.prog 102 [zB p, cI e, zB q, cI f] (.tup [zF0, cI 6]) := by
  refine ACalls.of_M TYok (qs := [zF0, cI 6]) [.cell 8 40, .tmp 9] 22 Tryz.func102 (by kernel_rfl) rfl rfl rfl fun G => ?_
  refine W.initA (hw := ?_)
  repeat' (first | ((first | apply U_ | (apply Ug_; exact rfl; exact rfl) | (apply Ugq_; exact rfl; exact rfl)); (first | exact QX.B TYok | exact QX.Ext TYok | exact QX.Build TYok); exact rfl) | refine SX.Alloc TYok (h := ?_) | refine SX.Store TYok (h := ?_) | refine SX.Box TYok (h := ?_) | refine SC ?_ | refine SG ?_ | (refine W.condA (ht := fun hb => ?_) (hf := fun hb => ?_) <;> (try simp at hb) <;> (try (exfalso; omega))))
  all_goals exact FinM.ret (ResM.cell rfl rfl rfl rfl zeroSubF (ResM.tmp rfl rfl PSub.rfl' ResM.nil))
def addOk (a b : Rat) : Prop := sumOk a.num b.den b.num a.den ∧ okZ (a.den * b.den)
theorem mul_ne {x y : Int} (hx : x ≠ 0) (hy : y ≠ 0) : x * y ≠ 0 := fun h => (Int.mul_eq_zero.1 h).elim hx hy
theorem add_yes (a b : Rat) (ha : okF a) (hb : okF b) (h : addOk a b) : ACalls Tryz.prog 70 [zF a, zF b] (.tup [zF (a + b), cI 0]) := by
  obtain ⟨h1, h2⟩ := h
  have r1 := fright_yes a ha
  have r2 := fright_yes b hb
  have s1 := sum_yes a.num b.den b.num a.den ha.1 hb.2 hb.1 ha.2 h1
  have m1 := mulZ_ok a.den b.den ha.2 hb.2
  rw [(full_yes h2).1, (full_yes h2).2] at m1
  have q1 := quot_yes _ _ h1.2.2 h2 (mul_ne (den_ne a) (den_ne b))
  rw [rat_add]
  generalize Rat.divInt (a.num * b.den + b.num * a.den) (a.den * b.den) = r at *
  refine ACalls.of_M TYok (qs := [zF r, cI 0]) [.cell 4 40, .tmp 5] 46 Tryz.func70 (by kernel_rfl) rfl rfl rfl fun G => ?_
  refine W.initA (hw := ?_)
  repeat' (first | ((first | apply U_ | (apply Ug_; exact rfl; exact rfl) | (apply Ugq_; exact rfl; exact rfl)); (first | exact QX.B TYok | exact QX.Ext TYok | exact QX.Build TYok | exact QCd (r1) | exact QCd (r2) | exact QCd (s1) | exact QCd (m1) | exact QCd (q1)); exact rfl) | refine SX.Alloc TYok (h := ?_) | refine SX.Store TYok (h := ?_) | refine SX.Box TYok (h := ?_) | refine SC ?_ | refine SG ?_ | (refine W.condA (ht := fun hb => ?_) (hf := fun hb => ?_) <;> (try simp at hb) <;> (try (exfalso; omega))))
  all_goals exact FinM.ret ResM.auto
theorem add_no (a b : Rat) (ha : okF a) (hb : okF b) (h : ¬ addOk a b) : ACalls Tryz.prog 70 [zF a, zF b] (.tup [zF0, cI 6]) := by
  have r1 := fright_yes a ha
  have r2 := fright_yes b hb
  have m1 := mulZ_ok a.den b.den ha.2 hb.2
  by_cases h1 : sumOk a.num b.den b.num a.den
  · have h2 : ¬ okZ (a.den * b.den) := fun q => h ⟨h1, q⟩
    have s1 := sum_yes a.num b.den b.num a.den ha.1 hb.2 hb.1 ha.2 h1
    rw [(full_no h2).1, (full_no h2).2] at m1
    have q1 := quot_no (a.num * b.den + b.num * a.den) 0 0 6 (.inr (by decide))
    refine ACalls.of_M TYok (qs := [zF0, cI 6]) [.cell 4 40, .tmp 5] 46 Tryz.func70 (by kernel_rfl) rfl rfl rfl fun G => ?_
    refine W.initA (hw := ?_)
    repeat' (first | ((first | apply U_ | (apply Ug_; exact rfl; exact rfl) | (apply Ugq_; exact rfl; exact rfl)); (first | exact QX.B TYok | exact QX.Ext TYok | exact QX.Build TYok | exact QCd (r1) | exact QCd (r2) | exact QCd (s1) | exact QCd (m1) | exact QCd (q1)); exact rfl) | refine SX.Alloc TYok (h := ?_) | refine SX.Store TYok (h := ?_) | refine SX.Box TYok (h := ?_) | refine SC ?_ | refine SG ?_ | (refine W.condA (ht := fun hb => ?_) (hf := fun hb => ?_) <;> (try simp at hb) <;> (try (exfalso; omega))))
    all_goals exact FinM.ret ResM.auto
  · have s1 := sum_no a.num b.den b.num a.den ha.1 hb.2 hb.1 ha.2 h1
    have q1 := quot_no 0 6 (fullZ (a.den * b.den)) (fullE (a.den * b.den)) (.inl (by decide))
    generalize fullZ (a.den * b.den) = w at *
    generalize fullE (a.den * b.den) = w2 at *
    refine ACalls.of_M TYok (qs := [zF0, cI 6]) [.cell 4 40, .tmp 5] 46 Tryz.func70 (by kernel_rfl) rfl rfl rfl fun G => ?_
    refine W.initA (hw := ?_)
    repeat' (first | ((first | apply U_ | (apply Ug_; exact rfl; exact rfl) | (apply Ugq_; exact rfl; exact rfl)); (first | exact QX.B TYok | exact QX.Ext TYok | exact QX.Build TYok | exact QCd (r1) | exact QCd (r2) | exact QCd (s1) | exact QCd (m1) | exact QCd (q1)); exact rfl) | refine SX.Alloc TYok (h := ?_) | refine SX.Store TYok (h := ?_) | refine SX.Box TYok (h := ?_) | refine SC ?_ | refine SG ?_ | (refine W.condA (ht := fun hb => ?_) (hf := fun hb => ?_) <;> (try simp at hb) <;> (try (exfalso; omega))))
    all_goals exact FinM.ret ResM.auto
def mulOk (a b : Rat) : Prop := okZ (a.num * b.num) ∧ okZ (a.den * b.den)
theorem fmul_yes (a b : Rat) (ha : okF a) (hb : okF b) (h : mulOk a b) : ACalls Tryz.prog 72 [zF a, zF b] (.tup [zF (a * b), cI 0]) := by
  obtain ⟨h1, h2⟩ := h
  have r1 := fright_yes a ha
  have r2 := fright_yes b hb
  have m1 := mulZ_ok a.num b.num ha.1 hb.1
  rw [(full_yes h1).1, (full_yes h1).2] at m1
  have m2 := mulZ_ok a.den b.den ha.2 hb.2
  rw [(full_yes h2).1, (full_yes h2).2] at m2
  have q1 := quot_yes _ _ h1 h2 (mul_ne (den_ne a) (den_ne b))
  rw [rat_mul]
  generalize Rat.divInt (a.num * b.num) (a.den * b.den) = r at *
  refine ACalls.of_M TYok (qs := [zF r, cI 0]) [.cell 4 40, .tmp 5] 42 Tryz.func72 (by kernel_rfl) rfl rfl rfl fun G => ?_
  refine W.initA (hw := ?_)
  repeat' (first | ((first | apply U_ | (apply Ug_; exact rfl; exact rfl) | (apply Ugq_; exact rfl; exact rfl)); (first | exact QX.B TYok | exact QX.Ext TYok | exact QX.Build TYok | exact QCd (r1) | exact QCd (r2) | exact QCd (m1) | exact QCd (m2) | exact QCd (q1)); exact rfl) | refine SX.Alloc TYok (h := ?_) | refine SX.Store TYok (h := ?_) | refine SX.Box TYok (h := ?_) | refine SC ?_ | refine SG ?_ | (refine W.condA (ht := fun hb => ?_) (hf := fun hb => ?_) <;> (try simp at hb) <;> (try (exfalso; omega))))
  all_goals exact FinM.ret ResM.auto
def divOk (a b : Rat) : Prop := okZ (a.num * b.den) ∧ okZ (a.den * b.num)
theorem fdiv_yes (a b : Rat) (ha : okF a) (hb : okF b) (h0 : b.num ≠ 0) (h : divOk a b) : ACalls Tryz.prog 73 [zF a, zF b] (.tup [zF (a / b), cI 0]) := by
  obtain ⟨h1, h2⟩ := h
  have r1 := fright_yes a ha
  have r2 := fright_yes b hb
  have cb := sgn_cases b.num
  have m1 := mulZ_ok a.num b.den ha.1 hb.2
  rw [(full_yes h1).1, (full_yes h1).2] at m1
  have m2 := mulZ_ok a.den b.num ha.2 hb.1
  rw [(full_yes h2).1, (full_yes h2).2] at m2
  have q1 := quot_yes _ _ h1 h2 (mul_ne (den_ne a) h0)
  rw [rat_div a b h0]
  generalize Rat.divInt (a.num * b.den) (a.den * b.num) = r at *
  refine ACalls.of_M TYok (qs := [zF r, cI 0]) [.cell 4 40, .tmp 5] 49 Tryz.func73 (by kernel_rfl) rfl rfl rfl fun G => ?_
  refine W.initA (hw := ?_)
  repeat' (first | ((first | apply U_ | (apply Ug_; exact rfl; exact rfl) | (apply Ugq_; exact rfl; exact rfl)); (first | exact QX.B TYok | exact QX.Ext TYok | exact QX.Build TYok | exact QCd (r1) | exact QCd (r2) | exact QCd (m1) | exact QCd (m2) | exact QCd (q1)); exact rfl) | refine SX.Alloc TYok (h := ?_) | refine SX.Store TYok (h := ?_) | refine SX.Box TYok (h := ?_) | refine SC ?_ | (apply S_isnil TYok; exact rfl; exact rfl; exact rfl; exact Ev.auto; intro bn hnil) | refine SG ?_ | (refine W.condA (ht := fun hb => ?_) (hf := fun hb => ?_) <;> (try simp at hb) <;> (try (exfalso; omega))))
  all_goals exact FinM.ret ResM.auto
theorem fdiv_zero (a b : Rat) (ha : okF a) (hb : okF b) (h0 : b.num = 0) : ACalls Tryz.prog 73 [zF a, zF b] (.tup [zF0, cI 15]) := by
  have r1 := fright_yes a ha
  have r2 := fright_yes b hb
  have cb := sgn_cases b.num
  refine ACalls.of_M TYok (qs := [zF0, cI 15]) [.cell 4 40, .tmp 5] 49 Tryz.func73 (by kernel_rfl) rfl rfl rfl fun G => ?_
  refine W.initA (hw := ?_)
  repeat' (first | ((first | apply U_ | (apply Ug_; exact rfl; exact rfl) | (apply Ugq_; exact rfl; exact rfl)); (first | exact QX.B TYok | exact QX.Ext TYok | exact QX.Build TYok | exact QCd (r1) | exact QCd (r2)); exact rfl) | refine SX.Alloc TYok (h := ?_) | refine SX.Store TYok (h := ?_) | refine SX.Box TYok (h := ?_) | refine SC ?_ | (apply S_isnil TYok; exact rfl; exact rfl; exact rfl; exact Ev.auto; intro bn hnil) | refine SG ?_ | (refine W.condA (ht := fun hb => ?_) (hf := fun hb => ?_) <;> (try simp at hb) <;> (try (exfalso; omega))))
  all_goals exact FinM.ret (ResM.cell rfl rfl rfl rfl zeroSubF (ResM.tmp rfl rfl PSub.rfl' ResM.nil))
theorem neg_okF {b : Rat} (h : okF b) : okF (-b) := ⟨by rw [Rat.neg_num]; exact okZ_neg h.1, by rw [Rat.neg_den]; exact h.2⟩
theorem fsub_yes (a b : Rat) (ha : okF a) (hb : okF b) (h : addOk a (-b)) : ACalls Tryz.prog 71 [zF a, zF b] (.tup [zF (a - b), cI 0]) := by
  have r1 := fright_yes a ha
  have r2 := fright_yes b hb
  have n1 := neg_ok b.num hb.1
  have a1 := add_yes a (-b) ha (neg_okF hb) h
  rw [show zF (-b) = zF2 (-b.num) b.den by show zF2 (-b).num ((-b).den : Int) = _; rw [Rat.neg_num, Rat.neg_den], ← Rat.sub_eq_add_neg] at a1
  generalize a - b = r at *
  refine ACalls.of_M TYok (qs := [zF r, cI 0]) [.cell 4 40, .tmp 5] 25 Tryz.func71 (by kernel_rfl) rfl rfl rfl fun G => ?_
  refine W.initA (hw := ?_)
  repeat' (first | ((first | apply U_ | (apply Ug_; exact rfl; exact rfl) | (apply Ugq_; exact rfl; exact rfl) | apply Lex.u | (apply Lex.g; exact rfl; exact rfl) | (apply Lex.gq; exact rfl; exact rfl)); (first | exact QX.B TYok | exact QX.Ext TYok | exact QX.Build TYok | exact QCd (r1) | exact QCd (r2) | exact QCd (n1) | exact QCd (a1)); exact rfl) | refine SX.Alloc TYok (h := ?_) | refine SX.Store TYok (h := ?_) | refine SX.Box TYok (h := ?_) | refine SC ?_ | refine SG ?_ | (apply W.draw2 (id := 3) [0, 0, 2, 6, 0, 16, 62, 127, 255, 255, 1023, 2047] [[2], [3], [16], [17], [3], [19], [18, 20], [15, 21], [22], [22]] 10 [(15, 4), (16, 8), (17, 65536), (18, 131072), (19, 8), (20, 524288), (21, 1310720), (22, 2129920), (23, 4194304), (24, 4194304)] mixed (by kernel_rfl) rfl rfl) | (refine W.condA (ht := fun hb => ?_) (hf := fun hb => ?_) <;> (try simp at hb) <;> (try (exfalso; omega))))
  all_goals exact FinM.ret ResM.auto
end
end Go.Proofs.YtjedkgogjehigaaGreat
end
