/-
  Part 10 of what the proof rests on.
-/
import Derived.Test.YtjedkgogjehigaaLS09
import Derived.Test.YtjedkgogjehigaaLS07
import Derived.Test.YtjedkgogjehigaaLS08
import Derived.Test.YtjedkgogjehigaaLS05
import Derived.Test.YtjedkgogjehigaaLS03
import Derived.ProofKit
import Derived.OpenShut
import Derived.Carry
import Derived.Test.YtjedkgogjehigaaLS04
import Derived.Lib.LaidTab
section
set_option linter.unusedVariables false
set_option linter.unusedSimpArgs false
set_option maxHeartbeats 8000000
set_option linter.unusedSectionVars false
namespace Go.Proofs.Ytjedkgogjehigaa
open Lf Go
attribute [local irreducible] PureOp EffOp Ev RG W Then InBlock Lf.Fin nth App InitE Pick SubE EvL EvD EvP EvR ResL Lf.Lex SubR SubBR EvC FinO FinM ResM ResD FinS val pw digs trimL
theorem rright_ok (s : Int) (l : List Int) (hl : l.length ≤ 9223372036854775807) : ACalls Try.prog 79 [aB s l] (.pv (cB (rightB s l))) := by
  refine ACalls.of_W (qs := [cB (rightB s l)]) [2] 60 Try.func79 (by kernel_rfl) rfl rfl rfl fun G => ?_
  refine W.initA (hw := ?_)
  repeat' (first | ((first | apply U_ | (apply Ug_; exact rfl; exact rfl) | (apply Ugq_; exact rfl; exact rfl)); (first | exact QX.B TYok | exact QX.Len TYok | exact QX.Idx TYok); exact rfl) | refine SX.Box TYok (h := ?_) | refine SC ?_ | (apply S_isnil TYok; exact rfl; exact rfl; exact rfl; exact Ev.auto; intro bn hnil) | refine SG ?_ | (refine W.condA (ht := fun hb => ?_) (hf := fun hb => ?_) <;> (try simp at hb) <;> (try (exfalso; omega))))
  apply W.loopP (σ := Nat) 60 [1] (fun k => k ≤ l.length ∧ l.all digB = (l.drop k).all digB) (fun k => [(3, vI k)]) (fun _ => [(1, ⟨38, 2, [[.int .i64 s, .sl (l.map Lf.encI)]]⟩)]) (fun k => l.length - k) (0)
  case hp => repeat (first | exact Pick.nil | apply Pick.cons rfl)
  case h0 =>
    refine ⟨by simp, ?_⟩
    exact Le.auto
  case round =>
    rintro k ⟨g1, g2⟩
    apply W.norm (by repeat (first | exact App.nil | apply App.cons))
    by_cases hk : k < l.length
    · have e : l.all digB = (digB (nth l k) && (l.drop (k + 1)).all digB) := by rw [g2, drop_nth hk, List.all_cons]
      repeat' (first | ((first | apply U_ | (apply Ug_; exact rfl; exact rfl) | (apply Ugq_; exact rfl; exact rfl)); (first | exact QX.B TYok | exact QX.Len TYok | exact QX.Idx TYok); exact rfl) | refine SX.Box TYok (h := ?_) | refine SC ?_ | (apply S_isnil TYok; exact rfl; exact rfl; exact rfl; exact Ev.auto; intro bn hnil) | refine SG ?_ | (refine W.condA (ht := fun hb => ?_) (hf := fun hb => ?_) <;> (try simp at hb) <;> (try (exfalso; omega))))
      · have e2 : rightB s l = false := by
          rw [rightB, e, show digB (nth l k) = false by
            simp only [digB, Bool.and_eq_false_iff, decide_eq_false_iff_not]; omega]; rfl
        rw [e2]
        exact Fin.ret ResL.auto
      · refine ⟨k + 1, ⟨by omega, ?_⟩, ?_, by omega⟩
        · rw [e, show digB (nth l k) = true by
            simp only [digB, Bool.and_eq_true, decide_eq_true_iff]; omega]; rfl
        · exact Le.auto
    · obtain rfl : k = l.length := by omega
      have e : l.all digB = true := by rw [g2, List.drop_length]; rfl
      by_cases h0 : l.length = 0
      · have e2 : rightB s l = decide (s = 0) := by rw [rightB, e, if_pos h0]; rfl
        have h1 : (l.length : Int) = 0 := by omega
        have hnil := List.length_eq_zero_iff.1 h0
        by_cases hs : s = 0
        · subst hs
          rw [show rightB 0 l = true from e2]
          repeat' (first | ((first | apply U_ | (apply Ug_; exact rfl; exact rfl) | (apply Ugq_; exact rfl; exact rfl)); (first | exact QX.B TYok | exact QX.Len TYok | exact QX.Idx TYok | (apply Q_indexd TYok; exact Ev.auto; exact Ev.auto; exact rfl; exact rfl; exact rfl; (intro hg; exact getRowI (absurd h1 (of_decide_eq_false hg))); exact rfl)); exact rfl) | refine SX.Box TYok (h := ?_) | refine SC ?_ | (apply S_isnil TYok; exact rfl; exact rfl; exact rfl; exact Ev.auto; intro bn hnil) | refine SG ?_ | (refine W.condA (ht := fun hb => ?_) (hf := fun hb => ?_) <;> (try simp at hb) <;> (try (exfalso; omega))))
          · exfalso
            rcases hb with h | h
            · omega
            · exact h hnil
          · rw [show (decide ((l.length : Int) = 0) || !decide (nth l ((l.length : Int) - 1).toNat = 0)) = true by rw [decide_eq_true h1]; rfl]
            exact Fin.ret ResL.auto
        · rw [e2, decide_eq_false hs]
          repeat' (first | ((first | apply U_ | (apply Ug_; exact rfl; exact rfl) | (apply Ugq_; exact rfl; exact rfl)); (first | exact QX.B TYok | exact QX.Len TYok | exact QX.Idx TYok | (apply Q_indexd TYok; exact Ev.auto; exact Ev.auto; exact rfl; exact rfl; exact rfl; (intro hg; exact getRowI (absurd h1 (of_decide_eq_false hg))); exact rfl)); exact rfl) | refine SX.Box TYok (h := ?_) | refine SC ?_ | (apply S_isnil TYok; exact rfl; exact rfl; exact rfl; exact Ev.auto; intro bn hnil) | refine SG ?_ | (refine W.condA (ht := fun hb => ?_) (hf := fun hb => ?_) <;> (try simp at hb) <;> (try (exfalso; omega))))
          · exact Fin.ret ResL.auto
          · exact absurd (hb.2.1 hnil) hs
      · have e2 : rightB s l = ((decide (s = 1) || decide (s = -1)) && decide ((l.length : Int) ≤ 60) && !decide (nth l ((l.length : Int) - 1).toNat = 0)) := by
          rw [rightB, e, if_neg h0, show ((l.length : Int) - 1).toNat = l.length - 1 by omega, show decide (l.length ≤ 60) = decide ((l.length : Int) ≤ 60) from decide_eq_decide.2 (by omega)]; rfl
        have hnil : ¬ l = [] := fun h => h0 (by rw [h]; rfl)
        repeat' (first | ((first | apply U_ | (apply Ug_; exact rfl; exact rfl) | (apply Ugq_; exact rfl; exact rfl)); (first | exact QX.B TYok | exact QX.Len TYok | exact QX.Idx TYok); exact rfl) | refine SX.Box TYok (h := ?_) | refine SC ?_ | (apply S_isnil TYok; exact rfl; exact rfl; exact rfl; exact Ev.auto; intro bn hnil) | refine SG ?_ | (refine W.condA (ht := fun hb => ?_) (hf := fun hb => ?_) <;> (try simp at hb) <;> (try (exfalso; omega))))
        · have e3 : rightB s l = false := by
            simp only [hnil, false_iff, Classical.not_not] at hb
            rw [e2, Bool.and_eq_false_iff, Bool.and_eq_false_iff]
            by_cases s1 : s = 1 ∨ s = -1
            · exact .inl (.inr (decide_eq_false (by omega)))
            · exact .inl (.inl (by rw [Bool.or_eq_false_iff]; exact ⟨decide_eq_false (by omega), decide_eq_false (by omega)⟩))
          rw [e3]
          exact Fin.ret ResL.auto
        · simp only [hnil, false_iff] at hb
          have e3 : rightB s l = (decide ((l.length : Int) = 0) || !decide (nth l ((l.length : Int) - 1).toNat = 0)) := by
            rw [e2, show decide ((l.length : Int) = 0) = false from decide_eq_false (by omega), show (decide (s = 1) || decide (s = -1)) = true by
              rw [Bool.or_eq_true, decide_eq_true_iff, decide_eq_true_iff]; omega, decide_eq_true hb.1.2]; rfl
          rw [e3]
          exact Fin.ret ResL.auto
theorem rmade_ok (s : Int) (l : List Int) (dl : Dig l) (hl : l.length ≤ 1000000) (z : Int) (hs : s = 1 ∨ s = -1 ∨ val l = 0) (hz : z = s * val l) : ACalls Try.prog 83 [cI s, slI l] (.pv (zB z)) := by
  obtain ⟨e1, e2⟩ := num_of (val_lo dl) hs hz
  have h1 := rtrim_ok l (by omega)
  rw [trim_digs dl] at h1
  rw [show zB z = aB (if val l = 0 then 0 else s) (digs (val l)) by rw [zB, e1, e2]]
  have h3 : (digs (val l)).length = 0 ↔ val l = 0 := by rw [List.length_eq_zero_iff, digs_nil (val_lo dl)]
  have h4 : (digs (val l)).length ≤ l.length := by rw [← trim_digs dl]; exact trimL_len l
  generalize digs (val l) = D at *
  refine ACalls.of_M TYok (qs := [aB (if val l = 0 then 0 else s) D]) [.cell 4 38] 15 Try.func83 (by kernel_rfl) rfl rfl rfl fun G => ?_
  refine W.initA (hw := ?_)
  repeat' (first | ((first | apply U_); (first | exact QX.B TYok | exact QX.Len TYok | exact QX.Build TYok | exact QCd (h1)); exact rfl) | refine SX.Alloc TYok (h := ?_) | refine SX.Store TYok (h := ?_) | refine SC ?_ | (apply S_isnil TYok; exact rfl; exact rfl; exact rfl; exact Ev.auto; intro bn hnil) | (refine W.condA (ht := fun hb => ?_) (hf := fun hb => ?_) <;> (try simp at hb) <;> (try (exfalso; omega))))
  · rw [hb, if_pos (h3.1 (by rw [hb]; rfl))]
    exact FinM.ret (ResM.cell rfl rfl rfl rfl zeroSub ResM.nil)
  · rw [if_neg (fun h => hb (List.length_eq_zero_iff.1 (h3.2 h)))]
    exact FinM.ret ResM.auto
theorem rright_yes {x : Int} (h : okZ x) : ACalls Try.prog 79 [zB x] (.pv (cB true)) := by
  rw [← num_right h]; exact rright_ok _ _ (by have := num_len h; omega)
theorem rneg_ok (x : Int) (hx : okZ x) : ACalls Try.prog 80 [zB x] (.pv (zB (-x))) := by
  have h1 := rright_yes hx
  have h2 := num_len hx
  have h4 := rmade_ok (-(sgn x)) (digs (mag x)) (digs_norm _).dig (by omega) (-x) (by have := sgn_cases x; rw [val_mag]; omega) (by rw [val_mag, Int.neg_mul, sgn_mag])
  have hc := sgn_cases x
  refine ACalls.of_M TYok (qs := [zB (-x)]) [.cell 2 38] 13 Try.func80 (by kernel_rfl) rfl rfl rfl fun G => ?_
  refine W.initA (hw := ?_)
  repeat' (first | ((first | apply U_); (first | exact QX.B TYok | exact QX.Build TYok | exact QCl (h1) | exact QCd (h4)); exact rfl) | refine SX.Alloc TYok (h := ?_) | refine SX.Store TYok (h := ?_) | refine SX.Box TYok (h := ?_) | refine SC ?_ | (refine W.condA (ht := fun hb => ?_) (hf := fun hb => ?_) <;> (try simp at hb) <;> (try (exfalso; omega))))
  exact FinM.ret ResM.auto
end Go.Proofs.Ytjedkgogjehigaa
end
section
set_option linter.unusedVariables false
set_option linter.unusedSimpArgs false
set_option maxHeartbeats 8000000
set_option linter.unusedSectionVars false
namespace Go.Proofs.Ytjedkgogjehigaa
open Lf Go
attribute [local irreducible] PureOp EffOp Ev RG W Then InBlock Lf.Fin nth App InitE Pick SubE EvL EvD EvP EvR ResL Lf.Lex SubR SubBR EvC FinO FinM ResM ResD FinS val pw digs trimL
theorem rdivZ_ok (x y : Int) (hx : okZ x) (hy : okZ y) (h0 : y ≠ 0) : ACalls Try.prog 82 [zB x, zB y] (.tup [zB (quoZ x y), zB (remZ x y), cI 0]) := by
  have h1 := rright_yes hx
  have h2 := rright_yes hy
  have l1 := num_len hx
  have l2 := num_len hy
  have hs := mul_sgn x y
  have c1 := sgn_cases x
  have c2 := sgn_cases y
  have mx := mag_nn x
  have my : 0 < mag y := by omega
  have h3 := rover_ok (digs (mag x)) (digs (mag y)) (digs_norm _).dig (digs_norm _).dig (by omega) (by omega) (by rw [val_mag]; exact my)
  rw [val_mag, val_mag] at h3
  have hq := Int.ediv_nonneg mx (show 0 ≤ mag y by omega)
  have hq2 : mag x / mag y ≤ mag x := Int.ediv_le_self _ mx
  have hr := Int.emod_nonneg (mag x) (show mag y ≠ 0 by omega)
  have hr2 := Int.emod_lt_of_pos (mag x) my
  have hm := Int.emod_add_mul_ediv (mag x) (mag y)
  have lq := digs_mono hq hq2
  have lr := digs_mono hr (show mag x % mag y ≤ mag y by omega)
  generalize mag x / mag y = q at *
  generalize mag x % mag y = r at *
  have hr0 : (digs r).length = 0 ↔ r = 0 := by rw [List.length_eq_zero_iff, digs_nil hr]
  by_cases hc : sgn x * sgn y < 0 ∧ 0 < r
  · have hne : 0 < (digs r).length := by omega
    have hxy : (x < 0 ∧ 0 < y) ∨ (0 < x ∧ y < 0) := by
      rcases c1 with h | h | h <;> rcases c2 with h' | h' | h' <;> rw [h.1, h'.1] at hc <;> first | (exfalso; omega) | omega
    have h4 := rplus_ok (digs q) [1] (digs_norm _).dig (Dig.cons (by omega) Dig.nil) (by omega) (by simp)
    rw [val_digs hq, val_one] at h4
    have h5 := rminus_ok (digs (mag y)) (digs r) (digs_norm _).dig (digs_norm _).dig (by omega) lr (by rw [val_mag, val_digs hr]; omega)
    rw [val_mag, val_digs hr] at h5
    have l6 := digs_mono (show 0 ≤ mag y - r by omega) (show mag y - r ≤ mag y by omega)
    have l7 : (digs (q + 1)).length ≤ 100 := (digs_len (by omega)).2 (by
      have := hx; unfold okZ at this
      have := pw_lt (show 60 < 100 by omega); omega)
    obtain ⟨u1, u2⟩ := quo_uniq (x := x) (q := -(q + 1)) (r := sgn y * (mag y - r)) h0 (by
        rcases hxy with h | h
        · have e1 : mag x = -x := by omega
          have e2 : mag y = y := by omega
          have e3 : sgn y = 1 := by omega
          rw [e3, e2]; rw [e1, e2] at hm; grind
        · have e1 : mag x = x := by omega
          have e2 : mag y = -y := by omega
          have e3 : sgn y = -1 := by omega
          rw [e3, e2]; rw [e1, e2] at hm; grind)
      (fun hp => by rw [show sgn y = 1 by omega]; omega) (fun hp => by rw [show sgn y = -1 by omega]; omega)
    rw [← u1, ← u2]
    have h6 := rmade_ok (-1) (digs (q + 1)) (digs_norm _).dig (by omega) (-(q + 1)) (.inr (.inl rfl)) (by rw [val_digs (by omega)]; omega)
    have h7 := rmade_ok (sgn y) (digs (mag y - r)) (digs_norm _).dig (by omega) (sgn y * (mag y - r)) (by omega) (by rw [val_digs (by omega)])
    generalize sgn y * (mag y - r) = z2 at *
    generalize -(q + 1) = z1 at *
    have hbad : (0 ≤ sgn x * sgn y ∨ digs r = []) → False := fun h => by
      rcases h with h | h
      · omega
      · rw [h] at hne; simp at hne
    refine ACalls.of_M TYok (qs := [zB z1, zB z2, cI 0]) [.cell 4 38, .cell 5 38, .tmp 6] 65 Try.func82 (by kernel_rfl) rfl rfl rfl fun G => ?_
    refine W.initA (hw := ?_)
    repeat' (first | ((first | apply U_ | (apply Ug_; exact rfl; exact rfl) | (apply Ugq_; exact rfl; exact rfl) | apply Lex.u | (apply Lex.g; exact rfl; exact rfl) | (apply Lex.gq; exact rfl; exact rfl)); (first | (apply Q_litD TYok; (repeat (first | exact EvR.nil | apply EvR.cons Ev.auto)); exact rfl; exact rfl; exact rfl; exact rfl; exact rfl; exact rfl) | exact QX.B TYok | exact QX.Len TYok | exact QX.Ext TYok | exact QX.Build TYok | exact QCl (h1) | exact QCl (h2) | exact QCd (h3) | exact QCd (h5) | exact QCd (h6) | exact QCd (h7) | exact QCd (h4)); exact rfl) | refine SX.Alloc TYok (h := ?_) | refine SX.Store TYok (h := ?_) | refine SX.Lit TYok (h := ?_) | refine SX.Box TYok (h := ?_) | refine SC ?_ | (apply S_isnil TYok; exact rfl; exact rfl; exact rfl; exact Ev.auto; intro bn hnil) | refine SG ?_ | (apply W.draw2 (id := 7) [0, 1, 0, 4, 15, 0, 63, 0, 128, 0, 1023, 2047, 4095, 8191] [[2], [43], [3], [45], [44, 46], [7], [47, 48], [2], [50], [8], [51, 52]] 11 [(43, 4), (44, 8796093022208), (45, 8), (46, 35184372088832), (47, 87960930222080), (48, 128), (49, 422212465065984), (50, 4), (51, 1125899906842624), (52, 256), (53, 6755399441055744)] mixed (by kernel_rfl) rfl rfl) | (apply W.draw2 (id := 8) [0, 0, 3, 7, 0, 16, 0, 64, 0, 463, 1023, 2047, 4095, 8191] [[7], [], [54, 55], [56], [3], [58], [3], [60], [8], [61, 62], [59, 63]] 11 [(54, 128), (55, 0), (56, 54043195528445952), (57, 72057594037927936), (58, 8), (59, 288230376151711744), (60, 8), (61, 1152921504606846976), (62, 256), (63, 6917529027641081856), (64, 9799832789158199296)] mixed (by kernel_rfl) rfl rfl) | (refine W.condA (ht := fun hb => ?_) (hf := fun hb => ?_) <;> (try simp at hb) <;> (try (exfalso; first | exact hbad hb | omega))))
    exact FinM.ret ResM.auto
  · have hcc : ¬ (sgn x * sgn y < 0 ∧ 0 < (digs r).length) := by omega
    have hxy : (x = 0) ∨ (0 < x ∧ 0 < y) ∨ (x < 0 ∧ y < 0) ∨ r = 0 := by
      by_cases hr' : r = 0
      · exact .inr (.inr (.inr hr'))
      · have hc2 : ¬ sgn x * sgn y < 0 := fun q => hc ⟨q, by omega⟩
        rcases c1 with h | h | h
        · rcases c2 with h' | h' | h'
          · omega
          · omega
          · rw [h.1, h'.1] at hc2; exact absurd (by decide) hc2
        · exact .inl h.2.1
        · rcases c2 with h' | h' | h'
          · rw [h.1, h'.1] at hc2; exact absurd (by decide) hc2
          · omega
          · omega
    have hq0 : x = 0 → q = 0 := fun h => by
      have : mag x = 0 := by omega
      omega
    have hsm : sgn x * sgn y = 1 ∨ sgn x * sgn y = -1 ∨ q = 0 := by
      rcases c1 with h | h | h
      · rcases c2 with h' | h' | h'
        · rw [h.1, h'.1]; exact .inl rfl
        · exact absurd h'.2.1 h0
        · rw [h.1, h'.1]; exact .inr (.inl rfl)
      · exact .inr (.inr (hq0 h.2.1))
      · rcases c2 with h' | h' | h'
        · rw [h.1, h'.1]; exact .inr (.inl rfl)
        · exact absurd h'.2.1 h0
        · rw [h.1, h'.1]; exact .inl rfl
    have hsx : sgn x = 1 ∨ sgn x = -1 ∨ r = 0 := by
      rcases c1 with h | h | h
      · exact .inr (.inl h.1)
      · have e := hq0 h.2.1
        rw [e, Int.mul_zero] at hm
        exact .inr (.inr (by omega))
      · exact .inl h.1
    obtain ⟨u1, u2⟩ := quo_uniq (x := x) (q := sgn x * sgn y * q) (r := sgn x * r) h0 (by
        have e1 := sgn_mag x
        have e2 := sgn_mag y
        have e3 : sgn y * sgn y = 1 := by
          rcases c2 with h | h | h
          · rw [h.1]; rfl
          · exact absurd h.2.1 h0
          · rw [h.1]; rfl
        generalize sgn x = sx at *
        generalize sgn y = sy at *
        generalize mag x = px at *
        generalize mag y = py at *
        subst e1; subst e2
        rw [← hm]
        have e4 : sy * py * (sx * sy * q) = sx * (py * q) * (sy * sy) := by grind
        rw [e4, e3]; grind)
      (fun hp => by
        rcases hxy with h | h | h | h
        · rw [show sgn x = 0 by omega]; omega
        · rw [show sgn x = 1 by omega]; omega
        · omega
        · rw [h, Int.mul_zero]; omega)
      (fun hp => by
        rcases hxy with h | h | h | h
        · rw [show sgn x = 0 by omega]; omega
        · omega
        · rw [show sgn x = -1 by omega]; omega
        · rw [h, Int.mul_zero]; omega)
    rw [← u1, ← u2]
    have h6 := rmade_ok (sgn x * sgn y) (digs q) (digs_norm _).dig (by omega) (sgn x * sgn y * q) (by rw [val_digs hq]; exact hsm) (by rw [val_digs hq])
    have h7 := rmade_ok (sgn x) (digs r) (digs_norm _).dig (by omega) (sgn x * r) (by rw [val_digs hr]; exact hsx) (by rw [val_digs hr])
    generalize sgn x * sgn y * q = z1 at *
    generalize sgn x * r = z2 at *
    have hbad : (sgn x * sgn y < 0 ∧ ¬ digs r = []) → False := fun h => hcc ⟨h.1, by have := List.length_pos_iff.2 h.2; omega⟩
    refine ACalls.of_M TYok (qs := [zB z1, zB z2, cI 0]) [.cell 4 38, .cell 5 38, .tmp 6] 65 Try.func82 (by kernel_rfl) rfl rfl rfl fun G => ?_
    refine W.initA (hw := ?_)
    repeat' (first | ((first | apply U_ | (apply Ug_; exact rfl; exact rfl) | (apply Ugq_; exact rfl; exact rfl) | apply Lex.u | (apply Lex.g; exact rfl; exact rfl) | (apply Lex.gq; exact rfl; exact rfl)); (first | exact QX.B TYok | exact QX.Len TYok | exact QX.Ext TYok | exact QX.Build TYok | exact QCl (h1) | exact QCl (h2) | exact QCd (h3) | exact QCd (h6) | exact QCd (h7)); exact rfl) | refine SX.Alloc TYok (h := ?_) | refine SX.Store TYok (h := ?_) | refine SX.Lit TYok (h := ?_) | refine SX.Box TYok (h := ?_) | refine SC ?_ | (apply S_isnil TYok; exact rfl; exact rfl; exact rfl; exact Ev.auto; intro bn hnil) | refine SG ?_ | (apply W.draw2 (id := 7) [0, 1, 0, 4, 15, 0, 63, 0, 128, 0, 1023, 2047, 4095, 8191] [[2], [43], [3], [45], [44, 46], [7], [47, 48], [2], [50], [8], [51, 52]] 11 [(43, 4), (44, 8796093022208), (45, 8), (46, 35184372088832), (47, 87960930222080), (48, 128), (49, 422212465065984), (50, 4), (51, 1125899906842624), (52, 256), (53, 6755399441055744)] mixed (by kernel_rfl) rfl rfl) | (refine W.drawA (id := 8) (L := [false, false, false, false, false, false, false, false, false, false, false, false, false, false]) mixed rfl ?_) | exact RAll.nil | (refine RAll.cons rfl ?_ ?_) | (refine RA.step (L := [false, false, false, false, false, false, false, false, false, false, false, false, false, false]) (i := 0) (is := [1, 4, 6, 8]) (by kernel_rfl) ?_) | (refine RA.step (L := [false, false, false, false, false, false, false, false, true, false, false, false, false, false]) (i := 0) (is := [1, 4, 6]) (by kernel_rfl) ?_) | (refine RA.step (L := [false, false, false, false, false, false, true, false, true, false, false, false, false, false]) (i := 0) (is := [1, 4, 7]) (by kernel_rfl) ?_) | (refine RA.step (L := [false, false, false, false, false, false, true, true, true, false, false, false, false, false]) (i := 0) (is := [1, 4]) (by kernel_rfl) ?_) | (refine RA.step (L := [false, false, false, false, true, false, true, true, true, false, false, false, false, false]) (i := 0) (is := [1, 5]) (by kernel_rfl) ?_) | (refine RA.step (L := [false, false, false, false, true, true, true, true, true, false, false, false, false, false]) (i := 0) (is := [1]) (by kernel_rfl) ?_) | (refine RA.step (L := [false, true, false, false, true, true, true, true, true, false, false, false, false, false]) (i := 0) (is := []) (by kernel_rfl) ?_) | (refine RA.step (L := [true, true, false, false, true, true, true, true, true, false, false, false, false, false]) (i := 2) (is := []) (by kernel_rfl) ?_) | (refine RA.step (L := [true, true, true, false, true, true, true, true, true, false, false, false, false, false]) (i := 3) (is := []) (by kernel_rfl) ?_) | (refine RA.step (L := [true, true, true, true, true, true, true, true, true, false, false, false, false, false]) (i := 9) (is := []) (by kernel_rfl) ?_) | (refine RA.step (L := [true, true, true, true, true, true, true, true, true, true, false, false, false, false]) (i := 10) (is := []) (by kernel_rfl) ?_) | (refine RA.step (L := [true, true, true, true, true, true, true, true, true, true, true, false, false, false]) (i := 11) (is := []) (by kernel_rfl) ?_) | (refine RA.step (L := [true, true, true, true, true, true, true, true, true, true, true, true, false, false]) (i := 12) (is := []) (by kernel_rfl) ?_) | (refine RA.step (L := [true, true, true, true, true, true, true, true, true, true, true, true, true, false]) (i := 13) (is := []) (by kernel_rfl) ?_) | (refine RA.done (L := [true, true, true, true, true, true, true, true, true, true, true, true, true, true]) (by kernel_rfl) ?_) | (refine RA.step (L := [true, false, false, false, true, true, true, true, true, false, false, false, false, false]) (i := 1) (is := []) (by kernel_rfl) ?_) | (refine RA.step (L := [false, true, false, false, true, false, true, true, true, false, false, false, false, false]) (i := 0) (is := [5]) (by kernel_rfl) ?_) | (refine RA.step (L := [true, true, false, false, true, false, true, true, true, false, false, false, false, false]) (i := 2) (is := [5]) (by kernel_rfl) ?_) | (refine RA.step (L := [true, true, true, false, true, false, true, true, true, false, false, false, false, false]) (i := 3) (is := [5]) (by kernel_rfl) ?_) | (refine RA.step (L := [true, true, true, true, true, false, true, true, true, false, false, false, false, false]) (i := 5) (is := [9]) (by kernel_rfl) ?_) | (refine RA.step (L := [true, true, true, true, true, false, true, true, true, true, false, false, false, false]) (i := 5) (is := []) (by kernel_rfl) ?_) | (refine RA.step (L := [true, false, false, false, true, false, true, true, true, false, false, false, false, false]) (i := 1) (is := [5]) (by kernel_rfl) ?_) | (refine RA.step (L := [false, true, false, false, false, false, true, true, true, false, false, false, false, false]) (i := 0) (is := [4]) (by kernel_rfl) ?_) | (refine RA.step (L := [true, true, false, false, false, false, true, true, true, false, false, false, false, false]) (i := 2) (is := [4]) (by kernel_rfl) ?_) | (refine RA.step (L := [true, true, true, false, false, false, true, true, true, false, false, false, false, false]) (i := 3) (is := [4]) (by kernel_rfl) ?_) | (refine RA.step (L := [true, true, true, true, false, false, true, true, true, false, false, false, false, false]) (i := 4) (is := [9]) (by kernel_rfl) ?_) | (refine RA.step (L := [true, true, true, true, false, false, true, true, true, true, false, false, false, false]) (i := 4) (is := []) (by kernel_rfl) ?_) | (refine RA.step (L := [true, false, false, false, false, false, true, true, true, false, false, false, false, false]) (i := 1) (is := [4]) (by kernel_rfl) ?_) | (refine RA.step (L := [false, false, false, false, true, false, true, false, true, false, false, false, false, false]) (i := 0) (is := [1, 5, 7]) (by kernel_rfl) ?_) | (refine RA.step (L := [false, false, false, false, true, true, true, false, true, false, false, false, false, false]) (i := 0) (is := [1, 7]) (by kernel_rfl) ?_) | (refine RA.step (L := [false, true, false, false, true, true, true, false, true, false, false, false, false, false]) (i := 0) (is := [7]) (by kernel_rfl) ?_) | (refine RA.step (L := [true, true, false, false, true, true, true, false, true, false, false, false, false, false]) (i := 2) (is := [7]) (by kernel_rfl) ?_) | (refine RA.step (L := [true, true, true, false, true, true, true, false, true, false, false, false, false, false]) (i := 3) (is := [7]) (by kernel_rfl) ?_) | (refine RA.step (L := [true, true, true, true, true, true, true, false, true, false, false, false, false, false]) (i := 7) (is := []) (by kernel_rfl) ?_) | (refine RA.step (L := [true, false, false, false, true, true, true, false, true, false, false, false, false, false]) (i := 1) (is := [7]) (by kernel_rfl) ?_) | (refine RA.step (L := [false, true, false, false, true, false, true, false, true, false, false, false, false, false]) (i := 0) (is := [5, 7]) (by kernel_rfl) ?_) | (refine RA.step (L := [true, true, false, false, true, false, true, false, true, false, false, false, false, false]) (i := 2) (is := [5, 7]) (by kernel_rfl) ?_) | (refine RA.step (L := [true, true, true, false, true, false, true, false, true, false, false, false, false, false]) (i := 3) (is := [5, 7]) (by kernel_rfl) ?_) | (refine RA.step (L := [true, true, true, true, true, false, true, false, true, false, false, false, false, false]) (i := 5) (is := [7]) (by kernel_rfl) ?_) | (refine RA.step (L := [true, false, false, false, true, false, true, false, true, false, false, false, false, false]) (i := 1) (is := [5, 7]) (by kernel_rfl) ?_) | (refine RA.step (L := [false, true, false, false, false, false, true, false, true, false, false, false, false, false]) (i := 0) (is := [4, 7]) (by kernel_rfl) ?_) | (refine RA.step (L := [true, true, false, false, false, false, true, false, true, false, false, false, false, false]) (i := 2) (is := [4, 7]) (by kernel_rfl) ?_) | (refine RA.step (L := [true, true, true, false, false, false, true, false, true, false, false, false, false, false]) (i := 3) (is := [4, 7]) (by kernel_rfl) ?_) | (refine RA.step (L := [true, true, true, true, false, false, true, false, true, false, false, false, false, false]) (i := 4) (is := [7]) (by kernel_rfl) ?_) | (refine RA.step (L := [true, false, false, false, false, false, true, false, true, false, false, false, false, false]) (i := 1) (is := [4, 7]) (by kernel_rfl) ?_) | (refine RA.step (L := [false, false, false, false, true, false, false, false, true, false, false, false, false, false]) (i := 0) (is := [1, 5, 6]) (by kernel_rfl) ?_) | (refine RA.step (L := [false, false, false, false, true, true, false, false, true, false, false, false, false, false]) (i := 0) (is := [1, 6]) (by kernel_rfl) ?_) | (refine RA.step (L := [false, true, false, false, true, true, false, false, true, false, false, false, false, false]) (i := 0) (is := [6]) (by kernel_rfl) ?_) | (refine RA.step (L := [true, true, false, false, true, true, false, false, true, false, false, false, false, false]) (i := 2) (is := [6]) (by kernel_rfl) ?_) | (refine RA.step (L := [true, true, true, false, true, true, false, false, true, false, false, false, false, false]) (i := 3) (is := [6]) (by kernel_rfl) ?_) | (refine RA.step (L := [true, true, true, true, true, true, false, false, true, false, false, false, false, false]) (i := 6) (is := []) (by kernel_rfl) ?_) | (refine RA.step (L := [true, false, false, false, true, true, false, false, true, false, false, false, false, false]) (i := 1) (is := [6]) (by kernel_rfl) ?_) | (refine RA.step (L := [false, true, false, false, true, false, false, false, true, false, false, false, false, false]) (i := 0) (is := [5, 6]) (by kernel_rfl) ?_) | (refine RA.step (L := [true, true, false, false, true, false, false, false, true, false, false, false, false, false]) (i := 2) (is := [5, 6]) (by kernel_rfl) ?_) | (refine RA.step (L := [true, true, true, false, true, false, false, false, true, false, false, false, false, false]) (i := 3) (is := [5, 6]) (by kernel_rfl) ?_) | (refine RA.step (L := [true, true, true, true, true, false, false, false, true, false, false, false, false, false]) (i := 5) (is := [6]) (by kernel_rfl) ?_) | (refine RA.step (L := [true, false, false, false, true, false, false, false, true, false, false, false, false, false]) (i := 1) (is := [5, 6]) (by kernel_rfl) ?_) | (refine RA.step (L := [false, true, false, false, false, false, false, false, true, false, false, false, false, false]) (i := 0) (is := [4, 6]) (by kernel_rfl) ?_) | (refine RA.step (L := [true, true, false, false, false, false, false, false, true, false, false, false, false, false]) (i := 2) (is := [4, 6]) (by kernel_rfl) ?_) | (refine RA.step (L := [true, true, true, false, false, false, false, false, true, false, false, false, false, false]) (i := 3) (is := [4, 6]) (by kernel_rfl) ?_) | (refine RA.step (L := [true, true, true, true, false, false, false, false, true, false, false, false, false, false]) (i := 4) (is := [6]) (by kernel_rfl) ?_) | (refine RA.step (L := [true, false, false, false, false, false, false, false, true, false, false, false, false, false]) (i := 1) (is := [4, 6]) (by kernel_rfl) ?_) | (refine RA.step (L := [false, false, false, false, false, false, true, false, false, false, false, false, false, false]) (i := 0) (is := [1, 4, 7, 8]) (by kernel_rfl) ?_) | (refine RA.step (L := [false, false, false, false, false, false, true, true, false, false, false, false, false, false]) (i := 0) (is := [1, 4, 8]) (by kernel_rfl) ?_) | (refine RA.step (L := [false, false, false, false, true, false, true, true, false, false, false, false, false, false]) (i := 0) (is := [1, 5, 8]) (by kernel_rfl) ?_) | (refine RA.step (L := [false, false, false, false, true, true, true, true, false, false, false, false, false, false]) (i := 0) (is := [1, 8]) (by kernel_rfl) ?_) | (refine RA.step (L := [false, true, false, false, true, true, true, true, false, false, false, false, false, false]) (i := 0) (is := [8]) (by kernel_rfl) ?_) | (refine RA.step (L := [true, true, false, false, true, true, true, true, false, false, false, false, false, false]) (i := 2) (is := [8]) (by kernel_rfl) ?_) | (refine RA.step (L := [true, true, true, false, true, true, true, true, false, false, false, false, false, false]) (i := 3) (is := [8]) (by kernel_rfl) ?_) | (refine RA.step (L := [true, true, true, true, true, true, true, true, false, false, false, false, false, false]) (i := 8) (is := []) (by kernel_rfl) ?_) | (refine RA.step (L := [true, false, false, false, true, true, true, true, false, false, false, false, false, false]) (i := 1) (is := [8]) (by kernel_rfl) ?_) | (refine RA.step (L := [false, true, false, false, true, false, true, true, false, false, false, false, false, false]) (i := 0) (is := [5, 8]) (by kernel_rfl) ?_) | (refine RA.step (L := [true, true, false, false, true, false, true, true, false, false, false, false, false, false]) (i := 2) (is := [5, 8]) (by kernel_rfl) ?_) | (refine RA.step (L := [true, true, true, false, true, false, true, true, false, false, false, false, false, false]) (i := 3) (is := [5, 8]) (by kernel_rfl) ?_) | (refine RA.step (L := [true, true, true, true, true, false, true, true, false, false, false, false, false, false]) (i := 5) (is := [8]) (by kernel_rfl) ?_) | (refine RA.step (L := [true, false, false, false, true, false, true, true, false, false, false, false, false, false]) (i := 1) (is := [5, 8]) (by kernel_rfl) ?_) | (refine RA.step (L := [false, true, false, false, false, false, true, true, false, false, false, false, false, false]) (i := 0) (is := [4, 8]) (by kernel_rfl) ?_) | (refine RA.step (L := [true, true, false, false, false, false, true, true, false, false, false, false, false, false]) (i := 2) (is := [4, 8]) (by kernel_rfl) ?_) | (refine RA.step (L := [true, true, true, false, false, false, true, true, false, false, false, false, false, false]) (i := 3) (is := [4, 8]) (by kernel_rfl) ?_) | (refine RA.step (L := [true, true, true, true, false, false, true, true, false, false, false, false, false, false]) (i := 4) (is := [8]) (by kernel_rfl) ?_) | (refine RA.step (L := [true, false, false, false, false, false, true, true, false, false, false, false, false, false]) (i := 1) (is := [4, 8]) (by kernel_rfl) ?_) | (refine RA.step (L := [false, false, false, false, true, false, true, false, false, false, false, false, false, false]) (i := 0) (is := [1, 5, 7, 8]) (by kernel_rfl) ?_) | (refine RA.step (L := [false, false, false, false, true, true, true, false, false, false, false, false, false, false]) (i := 0) (is := [1, 7, 8]) (by kernel_rfl) ?_) | (refine RA.step (L := [false, true, false, false, true, true, true, false, false, false, false, false, false, false]) (i := 0) (is := [7, 8]) (by kernel_rfl) ?_) | (refine RA.step (L := [true, true, false, false, true, true, true, false, false, false, false, false, false, false]) (i := 2) (is := [7, 8]) (by kernel_rfl) ?_) | (refine RA.step (L := [true, true, true, false, true, true, true, false, false, false, false, false, false, false]) (i := 3) (is := [7, 8]) (by kernel_rfl) ?_) | (refine RA.step (L := [true, true, true, true, true, true, true, false, false, false, false, false, false, false]) (i := 7) (is := [8]) (by kernel_rfl) ?_) | (refine RA.step (L := [true, false, false, false, true, true, true, false, false, false, false, false, false, false]) (i := 1) (is := [7, 8]) (by kernel_rfl) ?_) | (refine RA.step (L := [false, true, false, false, true, false, true, false, false, false, false, false, false, false]) (i := 0) (is := [5, 7, 8]) (by kernel_rfl) ?_) | (refine RA.step (L := [true, true, false, false, true, false, true, false, false, false, false, false, false, false]) (i := 2) (is := [5, 7, 8]) (by kernel_rfl) ?_) | (refine RA.step (L := [true, true, true, false, true, false, true, false, false, false, false, false, false, false]) (i := 3) (is := [5, 7, 8]) (by kernel_rfl) ?_) | (refine RA.step (L := [true, true, true, true, true, false, true, false, false, false, false, false, false, false]) (i := 5) (is := [7, 8]) (by kernel_rfl) ?_) | (refine RA.step (L := [true, false, false, false, true, false, true, false, false, false, false, false, false, false]) (i := 1) (is := [5, 7, 8]) (by kernel_rfl) ?_) | (refine RA.step (L := [false, true, false, false, false, false, true, false, false, false, false, false, false, false]) (i := 0) (is := [4, 7, 8]) (by kernel_rfl) ?_) | (refine RA.step (L := [true, true, false, false, false, false, true, false, false, false, false, false, false, false]) (i := 2) (is := [4, 7, 8]) (by kernel_rfl) ?_) | (refine RA.step (L := [true, true, true, false, false, false, true, false, false, false, false, false, false, false]) (i := 3) (is := [4, 7, 8]) (by kernel_rfl) ?_) | (refine RA.step (L := [true, true, true, true, false, false, true, false, false, false, false, false, false, false]) (i := 4) (is := [7, 8]) (by kernel_rfl) ?_) | (refine RA.step (L := [true, false, false, false, false, false, true, false, false, false, false, false, false, false]) (i := 1) (is := [4, 7, 8]) (by kernel_rfl) ?_) | (refine RA.step (L := [false, false, false, false, true, false, false, false, false, false, false, false, false, false]) (i := 0) (is := [1, 5, 6, 8]) (by kernel_rfl) ?_) | (refine RA.step (L := [false, false, false, false, true, true, false, false, false, false, false, false, false, false]) (i := 0) (is := [1, 6, 8]) (by kernel_rfl) ?_) | (refine RA.step (L := [false, true, false, false, true, true, false, false, false, false, false, false, false, false]) (i := 0) (is := [6, 8]) (by kernel_rfl) ?_) | (refine RA.step (L := [true, true, false, false, true, true, false, false, false, false, false, false, false, false]) (i := 2) (is := [6, 8]) (by kernel_rfl) ?_) | (refine RA.step (L := [true, true, true, false, true, true, false, false, false, false, false, false, false, false]) (i := 3) (is := [6, 8]) (by kernel_rfl) ?_) | (refine RA.step (L := [true, true, true, true, true, true, false, false, false, false, false, false, false, false]) (i := 6) (is := [8]) (by kernel_rfl) ?_) | (refine RA.step (L := [true, false, false, false, true, true, false, false, false, false, false, false, false, false]) (i := 1) (is := [6, 8]) (by kernel_rfl) ?_) | (refine RA.step (L := [false, true, false, false, true, false, false, false, false, false, false, false, false, false]) (i := 0) (is := [5, 6, 8]) (by kernel_rfl) ?_) | (refine RA.step (L := [true, true, false, false, true, false, false, false, false, false, false, false, false, false]) (i := 2) (is := [5, 6, 8]) (by kernel_rfl) ?_) | (refine RA.step (L := [true, true, true, false, true, false, false, false, false, false, false, false, false, false]) (i := 3) (is := [5, 6, 8]) (by kernel_rfl) ?_) | (refine RA.step (L := [true, true, true, true, true, false, false, false, false, false, false, false, false, false]) (i := 5) (is := [6, 8]) (by kernel_rfl) ?_) | (refine RA.step (L := [true, false, false, false, true, false, false, false, false, false, false, false, false, false]) (i := 1) (is := [5, 6, 8]) (by kernel_rfl) ?_) | (refine RA.step (L := [false, true, false, false, false, false, false, false, false, false, false, false, false, false]) (i := 0) (is := [4, 6, 8]) (by kernel_rfl) ?_) | (refine RA.step (L := [true, true, false, false, false, false, false, false, false, false, false, false, false, false]) (i := 2) (is := [4, 6, 8]) (by kernel_rfl) ?_) | (refine RA.step (L := [true, true, true, false, false, false, false, false, false, false, false, false, false, false]) (i := 3) (is := [4, 6, 8]) (by kernel_rfl) ?_) | (refine RA.step (L := [true, true, true, true, false, false, false, false, false, false, false, false, false, false]) (i := 4) (is := [6, 8]) (by kernel_rfl) ?_) | (refine RA.step (L := [true, false, false, false, false, false, false, false, false, false, false, false, false, false]) (i := 1) (is := [4, 6, 8]) (by kernel_rfl) ?_) | (refine W.condA (ht := fun hb => ?_) (hf := fun hb => ?_) <;> (try simp at hb) <;> (try (exfalso; first | exact hbad hb | omega))))
    exact FinM.ret ResM.auto
theorem rgcdZ_ok (x y : Int) (hx : okZ x) (hy : okZ y) : ACalls Try.prog 81 [zB x, zB y] (.tup [zB (gcdZ x y), cI 0]) := by
  have h1 := rright_yes hx
  have h2 := rright_yes hy
  have l1 := num_len hx
  have l2 := num_len hy
  have hg := gcd_lt hx hy
  have hg0 : 0 ≤ gcdZ x y := by unfold gcdZ; omega
  refine ACalls.of_M TYok (qs := [zB (gcdZ x y), cI 0]) [.cell 4 38, .tmp 5] 36 Try.func81 (by kernel_rfl) rfl rfl rfl fun G => ?_
  refine W.initA (hw := ?_)
  repeat' (first | ((first | apply U_ | (apply Ug_; exact rfl; exact rfl) | (apply Ugq_; exact rfl; exact rfl)); (first | exact QX.B TYok | exact QX.Len TYok | exact QX.Ext TYok | exact QX.Build TYok | exact QCl (h1) | exact QCl (h2)); exact rfl) | refine SX.Alloc TYok (h := ?_) | refine SX.Store TYok (h := ?_) | refine SX.Box TYok (h := ?_) | refine SC ?_ | refine SG ?_ | (refine W.condA (ht := fun hb => ?_) (hf := fun hb => ?_) <;> (try simp at hb) <;> (try (exfalso; omega))))
  apply W.loopP (σ := Int × Int) 36 [4] (fun (u, v) => (0 ≤ u ∧ 0 ≤ v ∧ (Int.gcd u v : Int) = gcdZ x y ∧ u < pw 60 ∧ v < pw 60)) (fun (u, v) => [(6, (True, .pv (slI (digs u)))), (7, (True, .pv (slI (digs v))))]) (fun _ => [(4, ⟨38, 2, [[.int .i64 0, .slnil]]⟩)]) (fun (u, v) => v.toNat) ((mag x, mag y))
  case hp => repeat (first | exact Pick.nil | apply Pick.cons rfl)
  case h0 =>
    refine ⟨⟨mag_nn x, mag_nn y, by unfold gcdZ; rw [gcd_mag], hx, hy⟩, ?_⟩
    exact Le.auto
  case round =>
    rintro ⟨u, v⟩ ⟨g1, g2, g3, g4, g5⟩
    dsimp only at g1 g2 g3 g4 g5 ⊢
    have lu := (digs_len g1).2 g4
    have lv := (digs_len g2).2 g5
    have hv0 : (digs v).length = 0 ↔ v = 0 := by rw [List.length_eq_zero_iff, digs_nil g2]
    apply W.norm (by repeat (first | exact App.nil | apply App.cons))
    by_cases hv : v = 0
    · have hlv : (digs v).length = 0 := hv0.2 hv
      have hug : u = gcdZ x y := by rw [hv, Int.gcd_zero_right] at g3; omega
      have h7 := rmade_ok 1 (digs u) (digs_norm _).dig (by omega) (gcdZ x y) (.inl rfl) (by rw [val_digs g1]; omega)
      repeat' (first | ((first | apply U_ | (apply Ug_; exact rfl; exact rfl) | (apply Ugq_; exact rfl; exact rfl)); (first | exact QX.B TYok | exact QX.Len TYok | exact QX.Ext TYok | exact QX.Build TYok | exact QCd (h7)); exact rfl) | refine SX.Alloc TYok (h := ?_) | refine SX.Store TYok (h := ?_) | refine SX.Box TYok (h := ?_) | refine SC ?_ | refine SG ?_ | (refine W.condA (ht := fun hb => ?_) (hf := fun hb => ?_) <;> (try simp at hb) <;> (try (exfalso; omega))))
      exact FinM.ret ResM.auto
    · have hlv : (digs v).length ≠ 0 := fun e => hv (hv0.1 e)
      have h6 := rover_ok (digs u) (digs v) (digs_norm _).dig (digs_norm _).dig (by omega) (by omega) (by rw [val_digs g2]; omega)
      rw [val_digs g1, val_digs g2] at h6
      have r0 := Int.emod_nonneg u hv
      have r1 := Int.emod_lt_of_pos u (show 0 < v by omega)
      have r2 := gcd_step g1 (show 0 < v by omega)
      repeat' (first | ((first | apply U_ | (apply Ug_; exact rfl; exact rfl) | (apply Ugq_; exact rfl; exact rfl)); (first | exact QX.B TYok | exact QX.Len TYok | exact QX.Ext TYok | exact QX.Build TYok | exact QCd (h6)); exact rfl) | refine SX.Alloc TYok (h := ?_) | refine SX.Store TYok (h := ?_) | refine SX.Box TYok (h := ?_) | refine SC ?_ | refine SG ?_ | (refine W.condA (ht := fun hb => ?_) (hf := fun hb => ?_) <;> (try simp at hb) <;> (try (exfalso; omega))))
      · refine ⟨(v, u % v), ⟨g2, r0, by rw [r2]; exact g3, g5, by omega⟩, ?_, by (try simp only); omega⟩
        exact Le.auto
      · exact absurd (by rw [hb]; rfl) hlv
section
variable (s t : Int) (l m : List Int) (hl : l.length ≤ 9223372036854775807) (hm : m.length ≤ 9223372036854775807) (h : ¬ (rightB s l = true ∧ rightB t m = true))
include hl hm h
end
end Go.Proofs.Ytjedkgogjehigaa
end
section
set_option linter.unusedVariables false
set_option linter.unusedSimpArgs false
set_option maxHeartbeats 8000000
set_option linter.unusedSectionVars false
namespace Go.Proofs.Ytjedkgogjehigaa
open Lf Go
attribute [local irreducible] PureOp EffOp Ev RG W Then InBlock Lf.Fin nth App InitE Pick SubE EvL EvD EvP EvR ResL Lf.Lex SubR SubBR EvC FinO FinM ResM ResD FinS val pw digs trimL
section
theorem Q_remS {P : Program} {G : Ghost} {n0 : Nat} {env : List (Nat × (Prop × AV))} {bl : List (Nat × Blk)} {p : Prop} {dst : Option Nat} {ty : TypeId} {pos : String} {after : Array Edge} {gd : Option (Nat × Bool)} {xt yt : Nat} {x y : Operand} {m n r : Int} (hr : m.tmod n = r) (hz : n ≠ 0) (hx : Ev (St.mk n0 env bl) p x (.pv (.one (.int .i64 m)))) (hy : Ev (St.mk n0 env bl) p y (.pv (.one (.int .i64 n)))) :
    PureOp P G (St.mk n0 env bl) ⟨dst, .binOp .rem xt x y yt, ty, pos, after, gd⟩ p (.pv (.one (.int .i64 r))) := by
  have h := Q_rem (P := P) (G := G) (dst := dst) (ty := ty) (pos := pos) (after := after) (gd := gd) (xt := xt) (yt := yt) hx hy (fun _ => hz)
  rw [hr] at h
  exact h
theorem Q_quoS {P : Program} {G : Ghost} {n0 : Nat} {env : List (Nat × (Prop × AV))} {bl : List (Nat × Blk)} {p : Prop} {dst : Option Nat} {ty : TypeId} {pos : String} {after : Array Edge} {gd : Option (Nat × Bool)} {xt yt : Nat} {x y : Operand} {m n r : Int} (hr : m.tdiv n = r) (hz : n ≠ 0) (hb : -9223372036854775808 ≤ r ∧ r ≤ 9223372036854775807) (hx : Ev (St.mk n0 env bl) p x (.pv (.one (.int .i64 m)))) (hy : Ev (St.mk n0 env bl) p y (.pv (.one (.int .i64 n)))) :
    PureOp P G (St.mk n0 env bl) ⟨dst, .binOp .quo xt x y yt, ty, pos, after, gd⟩ p (.pv (.one (.int .i64 r))) := by
  have h := Q_quo (P := P) (G := G) (dst := dst) (ty := ty) (pos := pos) (after := after) (gd := gd) (xt := xt) (yt := yt) hx hy (fun _ => hz)
  rw [hr, i64_id hb] at h
  exact h
theorem rof_zero : ACalls Try.prog 55 [cI 0] (.pv (zB 0)) := by
  refine ACalls.of_M TYok (qs := [zB 0]) [.cell 2 38] 28 Try.func55 (by kernel_rfl) rfl rfl rfl fun G => ?_
  refine W.initA (hw := ?_)
  repeat' (first | ((first | apply U_); (first | exact QX.B TYok | exact QX.Build TYok); exact rfl) | refine SX.Alloc TYok (h := ?_) | refine SX.Store TYok (h := ?_) | refine SX.Lit TYok (h := ?_) | refine SX.App TYok (h := ?_) | refine SC ?_ | (apply S_isnil TYok; exact rfl; exact rfl; exact rfl; exact Ev.auto; intro bn hnil) | (refine W.condA (ht := fun hb => ?_) (hf := fun hb => ?_) <;> (try simp at hb) <;> (try (exfalso; omega))))
  exact FinM.ret (ResM.cell rfl rfl rfl rfl zeroSubZ ResM.nil)
theorem rof_neg (x : Int) (hx : i64B x) (h0 : x < 0) : ACalls Try.prog 55 [cI x] (.pv (zB x)) := by
  have c1 := sgn_cases x
  have hx' := hx
  unfold i64B at hx'
  have key : ∀ l : List Int, OfI x l 0 → l.length ≤ 10 → ACalls Try.prog 83 [cI (-1), slI l] (.pv (zB x)) := fun l hl hll =>
    rmade_ok (-1) l hl.dig (by omega) x (by omega) (by rw [hl.done]; omega)
  have m0 := i64_mag hx
  have m1 := mag_nn x
  have ex : -(mag x) = x := by omega
  refine ACalls.of_M TYok (qs := [zB x]) [.cell 2 38] 28 Try.func55 (by kernel_rfl) rfl rfl rfl fun G => ?_
  refine W.initA (hw := ?_)
  repeat' (first | (exfalso; omega) | ((first | apply U_); (first | exact QX.B TYok | exact QX.Build TYok); exact rfl) | refine SX.Alloc TYok (h := ?_) | refine SX.Store TYok (h := ?_) | refine SX.Lit TYok (h := ?_) | refine SX.App TYok (h := ?_) | refine SC ?_ | (apply S_isnil TYok; exact rfl; exact rfl; exact rfl; exact Ev.auto; intro bn hnil) | (refine W.condA (ht := fun hb => ?_) (hf := fun hb => ?_) <;> (try simp at hb) <;> (try (exfalso; omega))))
  refine W.weaken (Le.nilOwn (t := 4) (n := 22) (E := 3) (sz := 1) rfl) ?_
  apply W.loopP (σ := Int × List Int) 28 [] (fun (u, l) => OfI x l u ∧ l.length ≤ 4) (fun (u, l) => [(0, vI (-u)), (4, (True, .slc 22)), (3, vI (-1)), (2, (True, .addr 2 0 0))]) (fun (u, l) => [(2, ⟨38, 2, [[.int .i64 0, .slnil]]⟩), (22, ⟨3, 1, l.map Lf.encI⟩)]) (fun (u, l) => u.toNat) ((mag x, []))
  case hp => repeat (first | exact Pick.nil | apply Pick.cons rfl)
  case h0 =>
    refine ⟨⟨⟨Dig.nil, m1, by simp [val, pw]⟩, by simp⟩, ?_⟩
    dsimp only
    rw [ex]
    exact Le.auto
  case round =>
    rintro ⟨u, l⟩ ⟨g1, gl⟩
    dsimp only at g1 gl ⊢
    have g2 := g1.short hx
    have g3 := g1.u0
    have g6 : u ≤ mag x := by
      have := g1.eq
      have := val_lo g1.dig
      have := pw_pos l.length
      have : 1 * u ≤ pw l.length * u := Int.mul_le_mul_of_nonneg_right (by omega) g3
      omega
    apply W.norm (by repeat (first | exact App.nil | apply App.cons))
    by_cases hu : 0 < u
    · have g4 := g2.1 hu
      have e1 : (-u).tmod 1048576 = -(u % 1048576) := by rw [Int.neg_tmod, Int.tmod_eq_emod_of_nonneg g3]
      have e2 : (-u).tdiv 1048576 = -(u / 1048576) := by rw [Int.neg_tdiv, Int.tdiv_eq_ediv_of_nonneg g3]
      repeat' (first | ((first | apply U_); (first | (apply Q_quoS e2 (by decide) (by omega); exact Ev.auto; exact Ev.auto) | (apply Q_remS e1 (by decide); exact Ev.auto; exact Ev.auto) | exact QX.B TYok | exact QX.Build TYok); exact rfl) | refine SX.Alloc TYok (h := ?_) | refine SX.Store TYok (h := ?_) | refine SX.Lit TYok (h := ?_) | refine SX.App TYok (h := ?_) | refine SC ?_ | (apply S_isnil TYok; exact rfl; exact rfl; exact rfl; exact Ev.auto; intro bn hnil) | (refine W.condA (ht := fun hb => ?_) (hf := fun hb => ?_) <;> (try simp at hb) <;> (try (exfalso; omega))))
      · refine ⟨(u / 1048576, l ++ [u % 1048576]), ⟨g1.step, by simp; omega⟩, ?_, by (try simp only); omega⟩
        dsimp only
        try rw [Int.neg_neg]
        exact Le.auto
      · have e0 : -(u % 1048576) = u % 1048576 := by omega
        refine ⟨(u / 1048576, l ++ [u % 1048576]), ⟨g1.step, by simp; omega⟩, ?_, by (try simp only); omega⟩
        dsimp only
        rw [e0]
        exact Le.auto
    · obtain rfl : u = 0 := by omega
      have g5 : l.length ≤ 10 := by omega
      have k1 := key l g1 g5
      repeat' (first | (refine W.weaken (Le.freeze1 (m := 22) rfl) ?_; apply W.region (id := 13)) | ((first | apply U_); (first | exact QX.B TYok | exact QX.Build TYok | exact QCd (k1)); exact rfl) | refine SX.Alloc TYok (h := ?_) | refine SX.Store TYok (h := ?_) | refine SX.Lit TYok (h := ?_) | refine SX.App TYok (h := ?_) | refine SC ?_ | (apply S_isnil TYok; exact rfl; exact rfl; exact rfl; exact Ev.auto; intro bn hnil) | (refine W.condA (ht := fun hb => ?_) (hf := fun hb => ?_) <;> (try simp at hb) <;> (try (exfalso; omega))))
      exact FinM.ret ResM.auto
theorem rof_pos (x : Int) (hx : i64B x) (h0 : 0 < x) : ACalls Try.prog 55 [cI x] (.pv (zB x)) := by
  have c1 := sgn_cases x
  have hx' := hx
  unfold i64B at hx'
  have key : ∀ l : List Int, OfI x l 0 → l.length ≤ 10 → ACalls Try.prog 83 [cI (1), slI l] (.pv (zB x)) := fun l hl hll =>
    rmade_ok (1) l hl.dig (by omega) x (by omega) (by rw [hl.done]; omega)
  have m0 := i64_mag hx
  have m1 := mag_nn x
  have ex : mag x = x := by omega
  refine ACalls.of_M TYok (qs := [zB x]) [.cell 2 38] 28 Try.func55 (by kernel_rfl) rfl rfl rfl fun G => ?_
  refine W.initA (hw := ?_)
  repeat' (first | (exfalso; omega) | ((first | apply U_); (first | exact QX.B TYok | exact QX.Build TYok); exact rfl) | refine SX.Alloc TYok (h := ?_) | refine SX.Store TYok (h := ?_) | refine SX.Lit TYok (h := ?_) | refine SX.App TYok (h := ?_) | refine SC ?_ | (apply S_isnil TYok; exact rfl; exact rfl; exact rfl; exact Ev.auto; intro bn hnil) | (refine W.condA (ht := fun hb => ?_) (hf := fun hb => ?_) <;> (try simp at hb) <;> (try (exfalso; omega))))
  refine W.weaken (Le.nilOwn (t := 4) (n := 22) (E := 3) (sz := 1) rfl) ?_
  apply W.loopP (σ := Int × List Int) 28 [] (fun (u, l) => OfI x l u ∧ l.length ≤ 4) (fun (u, l) => [(0, vI (u)), (4, (True, .slc 22)), (3, vI (1)), (2, (True, .addr 2 0 0))]) (fun (u, l) => [(2, ⟨38, 2, [[.int .i64 0, .slnil]]⟩), (22, ⟨3, 1, l.map Lf.encI⟩)]) (fun (u, l) => u.toNat) ((mag x, []))
  case hp => repeat (first | exact Pick.nil | apply Pick.cons rfl)
  case h0 =>
    refine ⟨⟨⟨Dig.nil, m1, by simp [val, pw]⟩, by simp⟩, ?_⟩
    dsimp only
    rw [ex]
    exact Le.auto
  case round =>
    rintro ⟨u, l⟩ ⟨g1, gl⟩
    dsimp only at g1 gl ⊢
    have g2 := g1.short hx
    have g3 := g1.u0
    have g6 : u ≤ mag x := by
      have := g1.eq
      have := val_lo g1.dig
      have := pw_pos l.length
      have : 1 * u ≤ pw l.length * u := Int.mul_le_mul_of_nonneg_right (by omega) g3
      omega
    apply W.norm (by repeat (first | exact App.nil | apply App.cons))
    by_cases hu : 0 < u
    · have g4 := g2.1 hu
      repeat' (first | ((first | apply U_); (first | exact QX.B TYok | exact QX.Build TYok); exact rfl) | refine SX.Alloc TYok (h := ?_) | refine SX.Store TYok (h := ?_) | refine SX.Lit TYok (h := ?_) | refine SX.App TYok (h := ?_) | refine SC ?_ | (apply S_isnil TYok; exact rfl; exact rfl; exact rfl; exact Ev.auto; intro bn hnil) | (refine W.condA (ht := fun hb => ?_) (hf := fun hb => ?_) <;> (try simp at hb) <;> (try (exfalso; omega))))
      refine ⟨(u / 1048576, l ++ [u % 1048576]), ⟨g1.step, by simp; omega⟩, ?_, by (try simp only); omega⟩
      exact Le.auto
    · obtain rfl : u = 0 := by omega
      have g5 : l.length ≤ 10 := by omega
      have k1 := key l g1 g5
      repeat' (first | (refine W.weaken (Le.freeze1 (m := 22) rfl) ?_; apply W.region (id := 13)) | ((first | apply U_); (first | exact QX.B TYok | exact QX.Build TYok | exact QCd (k1)); exact rfl) | refine SX.Alloc TYok (h := ?_) | refine SX.Store TYok (h := ?_) | refine SX.Lit TYok (h := ?_) | refine SX.App TYok (h := ?_) | refine SC ?_ | (apply S_isnil TYok; exact rfl; exact rfl; exact rfl; exact Ev.auto; intro bn hnil) | (refine W.condA (ht := fun hb => ?_) (hf := fun hb => ?_) <;> (try simp at hb) <;> (try (exfalso; omega))))
      exact FinM.ret ResM.auto
theorem rof_ok (x : Int) (hx : i64B x) : ACalls Try.prog 55 [cI x] (.pv (zB x)) := by
  by_cases h0 : x = 0
  · subst h0; exact rof_zero
  · by_cases h1 : x < 0
    · exact rof_neg x hx h1
    · exact rof_pos x hx (by omega)
end
end Go.Proofs.Ytjedkgogjehigaa
end
section
set_option linter.unusedVariables false
set_option linter.unusedSimpArgs false
set_option maxHeartbeats 8000000
set_option linter.unusedSectionVars false
namespace Go.Proofs.Ytjedkgogjehigaa
open Lf Go
attribute [local irreducible] PureOp EffOp Ev RG W Then InBlock Lf.Fin nth App InitE Pick SubE EvL EvD EvP EvR ResL Lf.Lex SubR SubBR EvC FinO FinM ResM ResD FinS val pw digs trimL
section
attribute [local irreducible] sgn mag gcdZ quoZ remZ fullZ fullE
theorem qnew_pos (x y : Int) (hx : okZ x) (hy : okZ y) (h0 : 0 < y) : ACalls Try.prog 54 [zB x, zB y] (.tup [zF2 (quoZ x (gcdZ x y)) (quoZ y (gcdZ x y)), cI 0]) := by
  have r1 := rright_yes hx
  have r2 := rright_yes hy
  have cy := sgn_cases y
  have hg := gcd_pos (x := x) (show y ≠ 0 by omega)
  have og := gcd_lt hx hy
  have g1 := rgcdZ_ok x y hx hy
  have d1 := rdivZ_ok x (gcdZ x y) hx og (by omega)
  have d2 := rdivZ_ok y (gcdZ x y) hy og (by omega)
  generalize quoZ x (gcdZ x y) = a at *
  generalize quoZ y (gcdZ x y) = b at *
  generalize gcdZ x y = g at *
  refine ACalls.of_M TYok (qs := [zF2 a b, cI 0]) [.cell 4 40, .tmp 5] 57 Try.func54 (by kernel_rfl) rfl rfl rfl fun G => ?_
  refine W.initA (hw := ?_)
  repeat' (first | ((first | apply U_ | (apply Ug_; exact rfl; exact rfl) | (apply Ugq_; exact rfl; exact rfl)); (first | exact QX.B TYok | exact QX.Ext TYok | exact QX.Build TYok | exact QCd (r1) | exact QCd (r2) | exact QCd (g1) | exact QCd (d1) | exact QCd (d2)); exact rfl) | refine SX.Alloc TYok (h := ?_) | refine SX.Store TYok (h := ?_) | refine SX.Box TYok (h := ?_) | refine SC ?_ | (apply S_isnil TYok; exact rfl; exact rfl; exact rfl; exact Ev.auto; intro bn hnil) | refine SG ?_ | (refine W.condA (ht := fun hb => ?_) (hf := fun hb => ?_) <;> (try simp at hb) <;> (try (exfalso; omega))))
  all_goals exact FinM.ret ResM.auto
theorem qnew_neg (x y : Int) (hx : okZ x) (hy : okZ y) (h0 : y < 0) : ACalls Try.prog 54 [zB x, zB y] (.tup [zF2 (quoZ (-x) (gcdZ (-x) (-y))) (quoZ (-y) (gcdZ (-x) (-y))), cI 0]) := by
  have r1 := rright_yes hx
  have r2 := rright_yes hy
  have cy := sgn_cases y
  have n1 := rneg_ok x hx
  have n2 := rneg_ok y hy
  have ox := okZ_neg hx
  have oy := okZ_neg hy
  have hg := gcd_pos (x := -x) (show -y ≠ 0 by omega)
  have og := gcd_lt ox oy
  have g1 := rgcdZ_ok (-x) (-y) ox oy
  have d1 := rdivZ_ok (-x) (gcdZ (-x) (-y)) ox og (by omega)
  have d2 := rdivZ_ok (-y) (gcdZ (-x) (-y)) oy og (by omega)
  generalize quoZ (-x) (gcdZ (-x) (-y)) = a at *
  generalize quoZ (-y) (gcdZ (-x) (-y)) = b at *
  generalize gcdZ (-x) (-y) = g at *
  refine ACalls.of_M TYok (qs := [zF2 a b, cI 0]) [.cell 4 40, .tmp 5] 57 Try.func54 (by kernel_rfl) rfl rfl rfl fun G => ?_
  refine W.initA (hw := ?_)
  repeat' (first | ((first | apply U_ | (apply Ug_; exact rfl; exact rfl) | (apply Ugq_; exact rfl; exact rfl)); (first | exact QX.B TYok | exact QX.Ext TYok | exact QX.Build TYok | exact QCd (r1) | exact QCd (r2) | exact QCd (n1) | exact QCd (n2) | exact QCd (g1) | exact QCd (d1) | exact QCd (d2)); exact rfl) | refine SX.Alloc TYok (h := ?_) | refine SX.Store TYok (h := ?_) | refine SX.Box TYok (h := ?_) | refine SC ?_ | (apply S_isnil TYok; exact rfl; exact rfl; exact rfl; exact Ev.auto; intro bn hnil) | refine SG ?_ | (refine W.condA (ht := fun hb => ?_) (hf := fun hb => ?_) <;> (try simp at hb) <;> (try (exfalso; omega))))
  all_goals exact FinM.ret ResM.auto
theorem qnew_ok (x y : Int) (hx : okZ x) (hy : okZ y) (h0 : y ≠ 0) : ACalls Try.prog 54 [zB x, zB y] (.tup [zF (Rat.divInt x y), cI 0]) := by
  by_cases h : 0 < y
  · obtain ⟨e1, e2⟩ := divInt_pos (x := x) h
    have := qnew_pos x y hx hy h
    rwa [← e1, ← e2] at this
  · obtain ⟨e1, e2⟩ := divInt_pos (x := -x) (y := -y) (by omega)
    have := qnew_neg x y hx hy (by omega)
    rw [← e1, ← e2, divInt_flip] at this
    exact this
theorem qof_ok (p q : Int) (hp : i64B p) (hq : i64B q) (h0 : q ≠ 0) : ACalls Try.prog 34 [cI p, cI q] (.tup [zF (Rat.divInt p q), cI 0]) := by
  have z1 := rof_ok p hp
  have z2 := rof_ok q hq
  have n1 := qnew_ok p q (i64_ok hp) (i64_ok hq) h0
  generalize Rat.divInt p q = r at *
  refine ACalls.of_M TYok (qs := [zF r, cI 0]) [.cell 4 40, .tmp 5] 13 Try.func34 (by kernel_rfl) rfl rfl rfl fun G => ?_
  refine W.initA (hw := ?_)
  repeat' (first | ((first | apply U_); (first | exact QX.B TYok | exact QX.Ext TYok | exact QCd (z1) | exact QCd (z2) | exact QCd (n1)); exact rfl) | refine SX.Alloc TYok (h := ?_) | refine SX.Store TYok (h := ?_) | refine SC ?_ | (refine W.condA (ht := fun hb => ?_) (hf := fun hb => ?_) <;> (try simp at hb) <;> (try (exfalso; omega))))
  all_goals exact FinM.ret ResM.auto
end
section
attribute [local irreducible] sgn mag gcdZ quoZ remZ fullZ fullE
theorem fullE_no {z : Int} (h : ¬ okZ z) : ¬ fullE z = 0 := by rw [(full_no h).2]; decide
end
section
attribute [local irreducible] sgn mag gcdZ quoZ remZ fullZ fullE
def subOk (a b : Rat) : Prop := (okZ (a.num * b.den) ∧ okZ (b.num * a.den) ∧ okZ (a.num * b.den - b.num * a.den)) ∧ okZ (a.den * b.den)
theorem okZ_negI {x : Int} : okZ (-x) ↔ okZ x := ⟨fun h => by have := okZ_neg h; rwa [Int.neg_neg] at this, okZ_neg⟩
theorem sub_add (a b : Rat) : subOk a b ↔ addOk a (-b) := by
  unfold subOk addOk sumOk
  rw [Rat.neg_num, Rat.neg_den, Int.neg_mul, okZ_negI, show a.num * (b.den : Int) + -(b.num * a.den) = a.num * b.den - b.num * a.den by omega]
theorem fsub_no (a b : Rat) (ha : okF a) (hb : okF b) (h : ¬ subOk a b) : ACalls Try.prog 70 [zF a, zF b] (.tup [zF0, cI 6]) := by
  have r1 := fright_yes a ha
  have r2 := fright_yes b hb
  have n1 := neg_ok b.num hb.1
  have a1 := add_no a (-b) ha (neg_okF hb) (fun k => h ((sub_add a b).2 k))
  rw [show zF (-b) = zF2 (-b.num) b.den by show zF2 (-b).num ((-b).den : Int) = _; rw [Rat.neg_num, Rat.neg_den]] at a1
  refine ACalls.of_M TYok (qs := [zF0, cI 6]) [.cell 4 40, .tmp 5] 25 Try.func70 (by kernel_rfl) rfl rfl rfl fun G => ?_
  refine W.initA (hw := ?_)
  repeat' (first | ((first | apply U_ | (apply Ug_; exact rfl; exact rfl) | (apply Ugq_; exact rfl; exact rfl) | apply Lex.u | (apply Lex.g; exact rfl; exact rfl) | (apply Lex.gq; exact rfl; exact rfl)); (first | exact QX.B TYok | exact QX.Ext TYok | exact QX.Build TYok | exact QCd (r1) | exact QCd (r2) | exact QCd (n1) | exact QCd (a1)); exact rfl) | refine SX.Alloc TYok (h := ?_) | refine SX.Store TYok (h := ?_) | refine SX.Box TYok (h := ?_) | refine SC ?_ | refine SG ?_ | (apply W.draw2 (id := 3) [0, 0, 2, 6, 0, 16, 62, 127, 255, 255, 1023, 2047] [[2], [3], [16], [17], [3], [19], [18, 20], [15, 21], [22], [22]] 10 [(15, 4), (16, 8), (17, 65536), (18, 131072), (19, 8), (20, 524288), (21, 1310720), (22, 2129920), (23, 4194304), (24, 4194304)] mixed (by kernel_rfl) rfl rfl) | (refine W.condA (ht := fun hb => ?_) (hf := fun hb => ?_) <;> (try simp at hb) <;> (try (exfalso; omega))))
  all_goals exact FinM.ret ResM.auto
theorem fmul_no (a b : Rat) (ha : okF a) (hb : okF b) (h : ¬ mulOk a b) : ACalls Try.prog 71 [zF a, zF b] (.tup [zF0, cI 6]) := by
  have r1 := fright_yes a ha
  have r2 := fright_yes b hb
  have m1 := mulZ_ok a.num b.num ha.1 hb.1
  have m2 := mulZ_ok a.den b.den ha.2 hb.2
  have q1 := quot_no (fullZ (a.num * b.num)) (fullE (a.num * b.num)) (fullZ (a.den * b.den)) (fullE (a.den * b.den)) (by
    unfold mulOk at h
    by_cases k1 : okZ (a.num * b.num)
    · by_cases k2 : okZ (a.den * b.den)
      · exact absurd ⟨k1, k2⟩ h
      · exact .inr (fullE_no k2)
    · exact .inl (fullE_no k1))
  generalize fullZ (a.num * b.num) = w1 at *
  generalize fullE (a.num * b.num) = e1 at *
  generalize fullZ (a.den * b.den) = w2 at *
  generalize fullE (a.den * b.den) = e2 at *
  refine ACalls.of_M TYok (qs := [zF0, cI 6]) [.cell 4 40, .tmp 5] 42 Try.func71 (by kernel_rfl) rfl rfl rfl fun G => ?_
  refine W.initA (hw := ?_)
  repeat' (first | ((first | apply U_ | (apply Ug_; exact rfl; exact rfl) | (apply Ugq_; exact rfl; exact rfl)); (first | exact QX.B TYok | exact QX.Ext TYok | exact QX.Build TYok | exact QCd (r1) | exact QCd (r2) | exact QCd (m1) | exact QCd (m2) | exact QCd (q1)); exact rfl) | refine SX.Alloc TYok (h := ?_) | refine SX.Store TYok (h := ?_) | refine SX.Box TYok (h := ?_) | refine SC ?_ | refine SG ?_ | (refine W.condA (ht := fun hb => ?_) (hf := fun hb => ?_) <;> (try simp at hb) <;> (try (exfalso; omega))))
  all_goals exact FinM.ret ResM.auto
theorem fdiv_no (a b : Rat) (ha : okF a) (hb : okF b) (h0 : b.num ≠ 0) (h : ¬ divOk a b) : ACalls Try.prog 72 [zF a, zF b] (.tup [zF0, cI 6]) := by
  have r1 := fright_yes a ha
  have r2 := fright_yes b hb
  have cb := sgn_cases b.num
  have m1 := mulZ_ok a.num b.den ha.1 hb.2
  have m2 := mulZ_ok a.den b.num ha.2 hb.1
  have q1 := quot_no (fullZ (a.num * b.den)) (fullE (a.num * b.den)) (fullZ (a.den * b.num)) (fullE (a.den * b.num)) (by
    unfold divOk at h
    by_cases k1 : okZ (a.num * b.den)
    · by_cases k2 : okZ (a.den * b.num)
      · exact absurd ⟨k1, k2⟩ h
      · exact .inr (fullE_no k2)
    · exact .inl (fullE_no k1))
  generalize fullZ (a.num * b.den) = w1 at *
  generalize fullE (a.num * b.den) = e1 at *
  generalize fullZ (a.den * b.num) = w2 at *
  generalize fullE (a.den * b.num) = e2 at *
  refine ACalls.of_M TYok (qs := [zF0, cI 6]) [.cell 4 40, .tmp 5] 49 Try.func72 (by kernel_rfl) rfl rfl rfl fun G => ?_
  refine W.initA (hw := ?_)
  repeat' (first | ((first | apply U_ | (apply Ug_; exact rfl; exact rfl) | (apply Ugq_; exact rfl; exact rfl)); (first | exact QX.B TYok | exact QX.Ext TYok | exact QX.Build TYok | exact QCd (r1) | exact QCd (r2) | exact QCd (m1) | exact QCd (m2) | exact QCd (q1)); exact rfl) | refine SX.Alloc TYok (h := ?_) | refine SX.Store TYok (h := ?_) | refine SX.Box TYok (h := ?_) | refine SC ?_ | (apply S_isnil TYok; exact rfl; exact rfl; exact rfl; exact Ev.auto; intro bn hnil) | refine SG ?_ | (refine W.condA (ht := fun hb => ?_) (hf := fun hb => ?_) <;> (try simp at hb) <;> (try (exfalso; omega))))
  all_goals exact FinM.ret ResM.auto
end
end Go.Proofs.Ytjedkgogjehigaa
end
section
set_option linter.unusedVariables false
set_option linter.unusedSimpArgs false
set_option maxHeartbeats 8000000
set_option linter.unusedSectionVars false
namespace Go.Proofs.Ytjedkgogjehigaa
open Lf Go
attribute [local irreducible] PureOp EffOp Ev RG W Then InBlock Lf.Fin nth App InitE Pick SubE EvL EvD EvP EvR ResL Lf.Lex SubR SubBR EvC FinO FinM ResM ResD FinS val pw digs trimL
section
theorem divInt_one (n : Int) : Rat.divInt n 1 = (n : Rat) := by
  obtain ⟨h1, h2⟩ := rat_of (x := n) (y := 1) (by decide) (by unfold gcdZ; simp)
  refine Rat.ext ?_ ?_
  · rw [h1]; rfl
  · have : ((n : Rat).den : Int) = 1 := rfl
    omega
theorem okF_int {n : Int} (h : i64B n) : okF (n : Rat) := by
  rw [← divInt_one]
  exact okF_of (i64_ok h) (i64_ok (by unfold i64B; omega)) (by omega)
theorem addOk_okF {a b : Rat} (h : addOk a b) : okF (a + b) := by
  rw [rat_add]
  exact okF_of h.1.2.2 h.2 (mul_ne (den_ne a) (den_ne b))
theorem mulOk_okF {a b : Rat} (h : mulOk a b) : okF (a * b) := by
  rw [rat_mul]
  exact okF_of h.1 h.2 (mul_ne (den_ne a) (den_ne b))
end
end Go.Proofs.Ytjedkgogjehigaa
end
section
set_option linter.unusedVariables false
set_option linter.unusedSimpArgs false
set_option linter.unusedSectionVars false
namespace Lf
open Go Go.RowKit Go.ChangeShapes Go.WideShapes Go.ChangeAt
def allΦ (w : World) : Frz := fun b => match w.heap[b]? with | some (.cells c _ _) => some c | _ => none
theorem fits_all (w : World) : Fits (allΦ w) w := by
  intro b cs h
  unfold allΦ at h
  split at h
  · rename_i c e l he
    obtain rfl := Option.some.inj h
    exact ⟨_, _, he⟩
  · cases h
theorem cell_all {w : World} {a : Addr} {v : Value} (h : w.cell? a = some v) : a.spot = none ∧ (allΦ w a.block).bind (·[a.off]?) = some v := by
  unfold World.cell? at h
  unfold allΦ
  split at h
  · rename_i c e l he
    rw [he]
    split at h
    · cases h
    · rename_i hs
      exact ⟨by simpa using hs, by simpa using h⟩
  · cases h
def TyS (R : Nat → List Cell → Prop) : List (Nat × Nat) → List Cell → Prop
  | [], cl => cl = []
  | (_, ft) :: fs, cl => ∃ a b, cl = a ++ b ∧ R ft a ∧ TyS R fs b
def TyL (T : TT) : Nat → Nat → List Cell → Prop
  | 0, _, _ => False
  | n + 1, t, cl => match (T t).map TI.kind with
    | some (.int k) => ∃ i, cl = [.int k i] ∧ (Lit.int k i).wf = true
    | some .bool => ∃ b, cl = [.bool b]
    | some .string => ∃ s, cl = [.str s] ∧ s.length ≤ maxLen
    | some (.slice e) => ∃ rows, cl = [.sl rows] ∧ rows.length ≤ maxLen ∧ ∀ r ∈ rows, TyL T n e r
    | some (.struct fs) => TyS (TyL T n) fs cl
    | _ => False
def tile (T : TT) : Nat → List (Nat × Nat) → Option Nat
  | o, [] => some o
  | o, (fo, ft) :: fs => bif Nat.beq fo o then (T ft).bind fun ti => tile T (o + ti.sz) fs else none
def sup (T : TT) : Nat → Nat → Bool
  | 0, _ => false
  | n + 1, t => match T t with
    | some ti => (match ti.kind with
      | .int _ | .bool | .string => Nat.beq ti.sz 1
      | .slice e => Nat.beq ti.sz 1 && sup T n e && (match T e with | some te => Nat.blt 0 te.sz | none => false)
      | .struct fs => (match tile T 0 fs with | some s => Nat.beq s ti.sz | none => false) && fs.all fun f => sup T n f.2
      | _ => false)
    | none => false
theorem pick_rows {α : Type} {p : Nat → α → Prop} : ∀ {n : Nat}, (∀ i, i < n → ∃ r, p i r) → ∃ rows : List α, rows.length = n ∧ ∀ i r, rows[i]? = some r → p i r
  | 0, _ => ⟨[], rfl, fun i r h => by simp at h⟩
  | n + 1, h => by
    obtain ⟨rows, h1, h2⟩ := pick_rows (n := n) fun i hi => h i (by omega)
    obtain ⟨r, hr⟩ := h n (by omega)
    refine ⟨rows ++ [r], by simp [h1], fun i s hs => ?_⟩
    rw [List.getElem?_append] at hs
    split at hs
    · exact h2 i s hs
    · rename_i hi
      by_cases he : i = n
      · subst he
        simp [h1] at hs
        exact hs ▸ hr
      · rw [List.getElem?_eq_none (by simp; omega)] at hs
        cases hs
section
variable {P : Program} {T : TT} (hT : TOK P T)
include hT
theorem cellsOf_ti {t : Nat} {ti : TI} (h : T t = some ti) : P.cellsOf t = ti.sz := by
  obtain ⟨i, hi, hs, _⟩ := (hT t ti h).info
  simp [Program.cellsOf, hi, hs]
theorem read {H : Type} {enc : TypeId × Value → H} {w : World} {base : Nat} {spare : Nat → Bool} {held : Bool} : ∀ (n t fuel : Nat) (cs : List Value) (x : DataW H × List MemPlace), sup T n t = true → DataW.trod enc P w base spare held fuel t cs = some x →
    ∃ cl, RelL (allΦ w) cs cl ∧ TyL T n t cl ∧ ∀ ti, T t = some ti → cl.length = ti.sz := by
  intro n
  induction n with
  | zero => intro t fuel cs x hs _; simp [sup] at hs
  | succ n ih =>
    intro t fuel cs x hs h
    cases hti : T t with
    | none => simp [sup, hti] at hs
    | some ti =>
      have hk := (hT t ti hti).kind
      have hz := cellsOf_ti hT hti
      simp only [sup, hti] at hs
      simp only [TyL, hti, Option.map_some]
      cases hkd : ti.kind with
      | int k =>
        rw [hkd] at hk hs
        obtain ⟨i, rfl, hx, hw⟩ := DataW.trod_int hk h
        exact ⟨[.int k i], ⟨.int k i, trivial⟩, ⟨i, rfl, hw⟩, fun tj hj => by obtain rfl := Option.some.inj hj; simpa using (Nat.eq_of_beq_eq_true hs).symm⟩
      | bool =>
        rw [hkd] at hk hs
        obtain ⟨b, rfl, hx⟩ := DataW.trod_bool hk h
        exact ⟨[.bool b], ⟨.bool b, trivial⟩, ⟨b, rfl⟩, fun tj hj => by obtain rfl := Option.some.inj hj; simpa using (Nat.eq_of_beq_eq_true hs).symm⟩
      | string =>
        rw [hkd] at hk hs
        obtain ⟨s, rfl, hx, hw⟩ := DataW.trod_string hk h
        refine ⟨[.str s.data.toList], ⟨.str s, trivial⟩, ⟨_, rfl, ?_⟩, fun tj hj => by obtain rfl := Option.some.inj hj; simpa using (Nat.eq_of_beq_eq_true hs).symm⟩
        rw [Array.length_toList]; exact hw
      | slice e =>
        rw [hkd] at hk hs
        simp only [Bool.and_eq_true] at hs
        obtain ⟨⟨hs1, hs2⟩, hs3⟩ := hs
        cases hte : T e with
        | none => rw [hte] at hs3; cases hs3
        | some te =>
          rw [hte] at hs3
          have hpos := blt_lt hs3
          have hze := cellsOf_ti hT hte
          have hlen1 : ∀ tj, some ti = some tj → 1 = tj.sz := fun tj hj => by obtain rfl := Option.some.inj hj; exact (Nat.eq_of_beq_eq_true hs1).symm
          rcases DataW.trod_slice hk h with ⟨rfl, hx⟩ | ⟨a, len, cap, elems, rest, m, rfl, rfl, hx, hb, hl, hm, hel, hget, _, _⟩
          · exact ⟨[.sl []], ⟨.sl0, trivial⟩, ⟨[], rfl, Nat.zero_le _, fun r hr => by cases hr⟩, hlen1⟩
          · have each : ∀ i, i < len → ∃ cl : List Cell, ∃ ci, w.cells? base (a.add (i * P.cellsOf e)) (P.cellsOf e) = some ci ∧ RelL (allΦ w) ci cl ∧ TyL T n e cl ∧ cl.length = te.sz := by
              intro i hi
              have h1 := hget i hi
              rw [List.getElem?_eq_getElem (by omega)] at h1
              cases hc : w.cells? base (a.add (i * P.cellsOf e)) (P.cellsOf e) with
              | none => rw [hc] at h1; cases h1
              | some ci =>
                rw [hc] at h1
                obtain ⟨cl, g1, g2, g3⟩ := ih e m ci _ hs2 h1
                exact ⟨cl, ci, rfl, g1, g2, g3 te hte⟩
            obtain ⟨rows, hr1, hr2⟩ := pick_rows each
            refine ⟨[.sl rows], ⟨?_, trivial⟩, ⟨rows, rfl, by omega, fun r hr => ?_⟩, hlen1⟩
            · by_cases h0 : len = 0
              · subst h0
                obtain rfl : rows = [] := List.eq_nil_of_length_eq_zero hr1
                exact .slE a cap
              · obtain ⟨b, off, spot⟩ := a
                have cellat : ∀ i j r c, rows[i]? = some r → r[j]? = some c → ∃ v, w.cell? (Addr.add (Addr.add ⟨b, off, spot⟩ (i * te.sz)) j) = some v ∧ Rel (allΦ w) v c := by
                  intro i j r c h1 h2
                  obtain ⟨ci, g1, g2, g3, g4⟩ := hr2 i r h1
                  obtain ⟨v, hv1, hv2⟩ := g2.get h2
                  rw [hze] at g1
                  have hj : j < te.sz := by have := (List.getElem?_eq_some_iff.1 h2).1; omega
                  have := World.cells?_some g1
                  refine ⟨v, ?_, hv2⟩
                  rw [← hv1]
                  exact this.2.2 j hj
                have hrow0 : ∃ r, rows[0]? = some r := ⟨rows[0]'(by omega), List.getElem?_eq_getElem (by omega)⟩
                obtain ⟨r0, hr0⟩ := hrow0
                obtain ⟨_, _, _, _, hl0⟩ := hr2 0 r0 hr0
                obtain ⟨v0, hv0, _⟩ := cellat 0 0 r0 _ hr0 (List.getElem?_eq_getElem (show 0 < r0.length by omega))
                have hz0 : Addr.add (Addr.add ⟨b, off, spot⟩ (0 * te.sz)) 0 = ⟨b, off, spot⟩ := by simp [Addr.add]
                rw [hz0] at hv0
                have hsp : spot = none := (cell_all hv0).1
                subst hsp
                refine .sl b off len cap te.sz rows (fun i j => ((allΦ w b).bind (·[off + (i * te.sz + j)]?)).getD .nilFunc) hr1 hl (fun r hr => ?_) (fun i j r c h1 h2 => ?_) (fun i j r c h1 h2 => ?_)
                · obtain ⟨i, hi⟩ := List.getElem?_of_mem hr
                  obtain ⟨_, _, _, _, g⟩ := hr2 i r hi
                  exact g
                · obtain ⟨v, hv, _⟩ := cellat i j r c h1 h2
                  have := (cell_all hv).2
                  simp only [Addr.add_lit] at this
                  rw [show off + (i * te.sz + j) = off + i * te.sz + j by omega, this]; rfl
                · obtain ⟨v, hv, hv2⟩ := cellat i j r c h1 h2
                  have := (cell_all hv).2
                  simp only [Addr.add_lit] at this
                  rw [show off + (i * te.sz + j) = off + i * te.sz + j by omega, this]; exact hv2
            · obtain ⟨i, hi⟩ := List.getElem?_of_mem hr
              obtain ⟨_, _, _, g, _⟩ := hr2 i r hi
              exact g
      | struct fs =>
        rw [hkd] at hk hs
        obtain ⟨fields, hu, hfs⟩ := hk
        simp only [Bool.and_eq_true] at hs
        obtain ⟨hs1, hs2⟩ := hs
        cases htl : tile T 0 fs with
        | none => rw [htl] at hs1; cases hs1
        | some tot =>
          rw [htl] at hs1
          have htot := Nat.eq_of_beq_eq_true hs1
          obtain ⟨xs, m, rfl, hx, hlen, hxl, hget⟩ := DataW.trod_struct hu h
          have hall : ∀ f ∈ fs, ∃ y, DataW.trod enc P w base spare held m f.2 ((cs.drop f.1).take (P.cellsOf f.2)) = some y := by
            intro f hf
            rw [← hfs] at hf
            obtain ⟨g, hg, rfl⟩ := List.mem_map.1 hf
            obtain ⟨i, hi⟩ := List.getElem?_of_mem hg
            have hi' : fields[i]? = some g := by rw [← hi]; simp
            have hlt : i < xs.length := by rw [hxl]; exact (Array.getElem?_eq_some_iff.1 hi').1
            exact ⟨xs[i], by rw [hget i g hi', List.getElem?_eq_getElem hlt]⟩
          have main : ∀ (gs : List (Nat × Nat)) (o : Nat), (∀ f ∈ gs, ∃ y, DataW.trod enc P w base spare held m f.2 ((cs.drop f.1).take (P.cellsOf f.2)) = some y) → gs.all (fun f => sup T n f.2) = true → tile T o gs = some tot → cs.length = tot →
              ∃ cl, RelL (allΦ w) (cs.drop o) cl ∧ TyS (TyL T n) gs cl ∧ o + cl.length = tot := by
            intro gs
            induction gs with
            | nil =>
              intro o _ _ h1 h2
              simp only [tile, Option.some.injEq] at h1
              refine ⟨[], ?_, rfl, by simp [h1]⟩
              rw [List.drop_eq_nil_of_le (by omega)]
              trivial
            | cons f gs ihs =>
              intro o hall' hsup h1 h2
              obtain ⟨fo, ft⟩ := f
              rw [tile] at h1
              cases hbe : Nat.beq fo o with
              | false => rw [hbe] at h1; cases h1
              | true =>
                have := Nat.eq_of_beq_eq_true hbe
                subst this
                rw [hbe, cond_true] at h1
                cases htf : T ft with
                | none => rw [htf] at h1; cases h1
                | some tf =>
                  rw [htf] at h1
                  simp only [Option.bind_some] at h1
                  simp only [List.all_cons, Bool.and_eq_true] at hsup
                  obtain ⟨y, hy⟩ := hall' _ (List.mem_cons_self ..)
                  obtain ⟨c1, a1, a2, a3⟩ := ih ft m _ y hsup.1 hy
                  obtain ⟨c2, b1, b2, b3⟩ := ihs (fo + tf.sz) (fun g hg => hall' g (List.mem_cons_of_mem _ hg)) hsup.2 h1 h2
                  have hl1 := a3 tf htf
                  refine ⟨c1 ++ c2, ?_, ⟨c1, c2, rfl, a2, b2⟩, by simp; omega⟩
                  have e : cs.drop fo = (cs.drop fo).take tf.sz ++ cs.drop (fo + tf.sz) := by
                    rw [← List.drop_drop, List.take_append_drop]
                  rw [e]
                  rw [cellsOf_ti hT htf] at a1
                  exact a1.append b1
          obtain ⟨cl, c1, c2, c3⟩ := main fs 0 hall hs2 htl (by rw [hlen, hz, htot])
          refine ⟨cl, by simpa using c1, c2, fun tj hj => ?_⟩
          obtain rfl := Option.some.inj hj
          omega
      | array k e => rw [hkd] at hs; cases hs
      | ptr e => rw [hkd] at hs; cases hs
      | map k e => rw [hkd] at hs; cases hs
      | func => rw [hkd] at hs; cases hs
      | iface => rw [hkd] at hs; cases hs
      | other => rw [hkd] at hs; cases hs
/-- A struct that came in. -/
theorem read_struct {H : Type} {enc : TypeId × Value → H} {w : World} {base b0 : Nat} {spare : Nat → Bool} {held : Bool} {r : Reach} {t : Nat} {fs : Array Field} {v : Value} {d : DataW H} {ps : List MemPlace} (n : Nat) (hu : P.underlying t = some (.struct fs)) (hs : sup T n t = true)
    (hval : Value.okWide P w r b0 t v) (hd : DataW.Trod enc P w base spare held t v d ps) : ∃ cs, PRel (allΦ w) v (.agg cs) ∧ TyL T n t cs := by
  obtain ⟨arr, rfl, _⟩ := okWide_struct hu hval
  obtain ⟨fuel, hf⟩ := hd
  obtain ⟨cl, h1, h2, _⟩ := read hT n t fuel _ _ hs hf
  exact ⟨cl, ⟨arr, rfl, h1⟩, h2⟩
end
theorem rows_map {α : Type} {f : α → List Cell} {p : α → Prop} : ∀ {rows : List (List Cell)}, (∀ r ∈ rows, ∃ v, r = f v ∧ p v) → ∃ l : List α, rows = l.map f ∧ ∀ v ∈ l, p v
  | [], _ => ⟨[], rfl, fun v hv => by cases hv⟩
  | r :: rs, h => by
    obtain ⟨v, rfl, hv⟩ := h r (List.mem_cons_self ..)
    obtain ⟨l, rfl, hl⟩ := rows_map fun s hs => h s (List.mem_cons_of_mem _ hs)
    exact ⟨v :: l, rfl, fun u hu => by cases hu with | head => exact hv | tail _ hm => exact hl u hm⟩
theorem Fin.retB {A : St} {t : Nat} {b : Bool} (h : lk A.env t = some (True, .pv (.one (.bool b)))) (hb : b = true) : Lf.Fin [t] [cB true] .ret A :=
  Fin.ret (ResL.cons h rfl (PSub.of_eq (by rw [hb])) ResL.nil)
/-- arguments, one after the other -/
def ArgsL (Φ : Frz) : List Value → List PV → Prop
  | [], [] => True
  | v :: vs, p :: ps => PRel Φ v p ∧ ArgsL Φ vs ps
  | _, _ => False
theorem ArgsL.rel {Φ : Frz} : ∀ {vs : List Value} {ps : List PV}, ArgsL Φ vs ps → vs.length = ps.length ∧ ∀ (j : Nat) (p : PV), ps[j]? = some p → ∃ v, vs[j]? = some v ∧ PRel Φ v p
  | [], [], _ => ⟨rfl, fun j p h => by simp at h⟩
  | v :: vs, p :: ps, h => by
    obtain ⟨h1, h2⟩ := ArgsL.rel h.2
    refine ⟨by simp [h1], fun j q hq => ?_⟩
    cases j with
    | zero => simp at hq; exact ⟨v, rfl, hq ▸ h.1⟩
    | succ j => simpa using h2 j q (by simpa using hq)
theorem ArgsRel.of {Φ : Frz} {vs : List Value} {ps : List PV} (h : ArgsL Φ vs ps) : ArgsRel Φ vs.toArray ps := ⟨by simpa using h.rel.1, fun j p hp => by simpa using h.rel.2 j p hp⟩
theorem ArgsL.nil {Φ : Frz} : ArgsL Φ [] [] := trivial
theorem ArgsL.cons {Φ : Frz} {v : Value} {vs : List Value} {p : PV} {ps : List PV} (h : PRel Φ v p) (hs : ArgsL Φ vs ps) : ArgsL Φ (v :: vs) (p :: ps) := ⟨h, hs⟩
end Lf
end
section
set_option linter.unusedVariables false
set_option linter.unusedSimpArgs false
set_option linter.unusedSectionVars false
namespace Lf
open Go Go.RowKit
section
variable {P : Program} {G : Ghost} {A : St} {Φ : Frz} {β : Own} {a : Act} {w w' : World} {T : TT}
/-- THE CONTRACT OF A FUNCTION that finds a map of its caller's at a place which its arguments name: the map's entries before the call, and what is known of them behind it. -/
structure PCalls (P : Program) (f : FuncId) (z : Nat) (args : Nat → List PV) (r : AV) (I : List (List Cell) → Prop) : Prop where
  fn : FnOK P f
  calls : ∀ (Φ : Frz) (w : World) (vs : Array Value) (b cap : Nat) (rows : List (List Cell)), I rows → Fits Φ w → ArgsRel Φ vs (args b) → Φ b = none → BlkRel Φ w b cap ⟨mapTag, z, rows⟩ →
    Calls P f vs w (fun e w' => ∃ v Φ' rows', e = .returned v ∧ AVRel Φ' (fun _ => none) [] v r ∧ Φ.le Φ' ∧ (∀ c, c < w.heap.size → Φ' c = Φ c) ∧ Fits Φ' w' ∧ I rows' ∧ BlkRel Φ' w' b cap ⟨mapTag, z, rows'⟩ ∧ BelowX b w.heap.size w w')
def St.initP (n z b : Nat) (rows : List (List Cell)) (args : List PV) : St := { n := n, env := initEnv args 0 ++ [(1000000, (True, .mpn 1000000 b))], blks := [(1000000, ⟨mapTag, z, rows⟩)] }
def FinP (T : TT) (z b : Nat) (I : List (List Cell) → Prop) (rs : List RV) (qs : List PV) (e : Exit) (A : St) : Prop :=
  (e = .normal ∨ e = .ret) ∧ ∃ m rows', lk A.blks m = some ⟨mapTag, z, rows'⟩ ∧ I rows' ∧ lk A.env 1000000 = some (True, .mpn m b) ∧ ResM T { A with env := fgt m A.env, blks := dropB m A.blks } rs qs
theorem FinP.ret {z b : Nat} {I : List (List Cell) → Prop} {rs : List RV} {qs : List PV} {rows' : List (List Cell)} (m : Nat) (h1 : lk A.blks m = some ⟨mapTag, z, rows'⟩) (h2 : I rows') (h3 : lk A.env 1000000 = some (True, .mpn m b)) (h : ResM T { A with env := fgt m A.env, blks := dropB m A.blks } rs qs) : FinP T z b I rs qs .ret A := ⟨.inr rfl, m, rows', h1, h2, h3, h⟩
theorem lk_appP {α : Type _} (l r : List (Nat × α)) (t : Nat) : lk (l ++ r) t = (lk l t).orElse fun _ => lk r t := by
  induction l with
  | nil => rfl
  | cons p l ih =>
    obtain ⟨k, x⟩ := p
    rw [List.cons_append, lk_cons, lk_cons, ih]
    split <;> rfl
/-- all but one block -/
theorem Sat.dropM {m : Nat} {B : Blk} (hm : lk A.blks m = some B) (hs : Sat G Φ β A a w) : Sat G Φ β { A with env := fgt m A.env, blks := dropB m A.blks } a w := by
  refine ⟨hs.kept, hs.fits, hs.old, hs.siz, hs.dfr, fun t q v h => ?_, fun n C b cap h1 h2 => ?_, fun n C h1 h2 => ?_, fun n n' C C' b c c' h1 h2 h3 h4 => ?_⟩
  · obtain ⟨v', g1, rfl⟩ := lk_fgt _ _ _ _ _ h
    refine ⟨fun hq => ?_, (hs.env t q v' g1).2⟩
    cases hmt : v'.ment m with
    | true => trivial
    | false => exact ((hs.env t q v' g1).1 hq).drop hmt
  · simp only [lk_dropB] at h1; split at h1
    · cases h1
    · exact hs.blk n C b cap h1 h2
  · simp only [lk_dropB] at h1; split at h1
    · cases h1
    · exact hs.vir n C h1 h2
  · simp only [lk_dropB] at h1 h2; split at h1
    · cases h1
    · split at h2
      · cases h2
      · exact hs.inj n n' C C' b c c' h1 h2 h3 h4
theorem PCalls.of_M (hT : TOK P T) {f : FuncId} {fn : Func} {c : Code} {z : Nat} {args : Nat → List PV} {qs : List PV} {I : List (List Cell) → Prop} (rs : List RV) (n : Nat) (hf : P.funcs[f]? = some fn) (hn : (fn.name == "runtime.NumGoroutine") = false) (hb : fn.body = some c)
    (hr : fn.results = (rs.map RV.var).toArray) (hnt : fn.ntmps = n) (h : ∀ G b rows, I rows → W P G c (FinP T z b I rs qs) (St.initP n z b rows (args b))) : PCalls P f z args (ofRes qs) I where
  fn := ⟨fn, hf, hn, by rw [hb]; rfl⟩
  calls := fun Φ w vs b cap rows hI0 hfit harg hΦ hblk => by
    subst hnt
    have hlt := hblk.lt
    have h0 := sat_init (G := { w0 := w, K := fun c => c < w.heap.size, F0 := Φ, lt := fun c h => h }) (f := f) (fn := fn) rfl hfit harg
    have hs0 : Sat { w0 := w, K := fun c => c < w.heap.size ∧ c ≠ b, F0 := Φ, lt := fun c h => h.1 } Φ (fun n => if n = 1000000 then some (b, cap) else none) (St.initP fn.ntmps z b rows (args b)) { tmps := vs ++ Array.replicate (fn.ntmps - vs.size) undef, defers := [] } w := by
      refine ⟨⟨rfl, rfl, rfl, Nat.le_refl _, fun b _ => rfl⟩, hfit, fun b _ => rfl, h0.siz, rfl, fun t q v hl => ?_, fun n B b' cap' h1 h2 => ?_, fun n B h1 h2 => ?_, fun n n' B B' b' c1 c2 h1 h2 h3 h4 => ?_⟩
      · simp only [St.initP] at hl
        rw [lk_appP] at hl
        cases h5 : lk (initEnv (args b) 0) t with
        | some y =>
          rw [h5] at hl
          obtain rfl := Option.some.inj hl
          obtain ⟨_, rfl, p, hp, rfl⟩ := lk_init _ _ _ _ _ h5
          exact h0.env t True (.pv p) h5
        | none =>
          rw [h5] at hl
          have hl : lk [(1000000, ((True : Prop), AV.mpn 1000000 b))] t = some (q, v) := hl
          rw [lk_cons] at hl
          split at hl
          · simp only [Option.some.injEq, Prod.mk.injEq] at hl
            obtain ⟨rfl, rfl⟩ := hl
            exact ⟨fun _ => ⟨b, cap, ⟨mapTag, z, rows⟩, by simp, rfl, rfl, rfl⟩, fun hq => (hq trivial).elim⟩
          · simp [lk] at hl
      · simp only [St.initP] at h1
        rw [lk_cons] at h1
        split at h1
        · rename_i e; subst e
          obtain rfl := Option.some.inj h1
          simp at h2
          obtain ⟨rfl, rfl⟩ := h2
          exact ⟨hblk, fun h => h.2 rfl, hΦ⟩
        · simp [lk] at h1
      · simp only [St.initP] at h1
        rw [lk_cons] at h1
        split at h1
        · rename_i e; subst e; simp at h2
        · simp [lk] at h1
      · split at h3
        · rename_i e; split at h4
          · rename_i e'; rw [e, e']
          · cases h4
        · cases h3
    refine calls_of_wp hf hb (wp_mono (h _ b rows hI0 Φ _ _ w hs0) fun e a' w' ⟨A', Φ1, β1, ⟨he, m, rows', hm, hI, hg, hres⟩, hs1, hle1⟩ => ?_)
    obtain ⟨b1, cap1, B1, k1, k2, k3, rfl⟩ := (hs1.env 1000000 True _ hg).1 trivial
    rw [hm] at k2
    obtain rfl := Option.some.inj k2
    have hbl := hs1.blk m _ b1 cap1 hm k1
    have hs := hs1.dropM hm
    have hno : ¬ ownedBy β1 (dropB m A'.blks) b1 := fun ⟨n, C, c', g1, g2⟩ => by
      rw [lk_dropB] at g1; split at g1
      · cases g1
      · rename_i e; exact e (hs1.inj n m C _ b1 c' cap1 g1 hm g2 k1)
    have hrest : Φ.le (frzAll Φ1 β1 (dropB m A'.blks) w') ∧ (∀ c, c < w.heap.size → frzAll Φ1 β1 (dropB m A'.blks) w' c = Φ c) ∧ Fits (frzAll Φ1 β1 (dropB m A'.blks) w') w' ∧ I rows' ∧ BlkRel (frzAll Φ1 β1 (dropB m A'.blks) w') w' b1 cap ⟨mapTag, z, rows'⟩ ∧ BelowX b1 w.heap.size w w' := by
      refine ⟨Frz.le_trans hle1 hs.frz_le, fun c hc => ?_, hs.frz_fits, hI, ?_, ⟨hs1.kept.os, hs1.kept.tape, hs1.kept.output, hs1.kept.size, fun c h1 h2 => hs1.kept.block c ⟨h1, h2⟩⟩⟩
      · by_cases e : c = b1
        · subst e
          unfold frzAll
          rw [if_neg hno, hΦ]; exact hbl.2.2
        · have hno' : ¬ ownedBy β1 (dropB m A'.blks) c := fun ⟨n, B, cap', h1, h2⟩ => (hs.blk n B c cap' h1 h2).2.1 ⟨hc, e⟩
          unfold frzAll
          rw [if_neg hno']
          exact hs1.old c ⟨hc, e⟩
      · rcases (hbl.1.keep hs.frz_le rfl).obj map_ob with ⟨_, es, g1, g2⟩ | ⟨g, _⟩
        · exact .inr ⟨map_ob, .inl ⟨rfl, es, g1, g2⟩⟩
        · exact absurd g tags
    have hv : a'.defers = [] ∧ ∃ v, (results fn a'.tmps).run P w' = .ok v w' ∧ (∃ v1 Φ'' rows'', Ending.returned v = .returned v1 ∧ AVRel Φ'' (fun _ => none) [] v1 (ofRes qs) ∧ Φ.le Φ'' ∧ (∀ c, c < w.heap.size → Φ'' c = Φ c) ∧ Fits Φ'' w' ∧ I rows'' ∧ BlkRel Φ'' w' b1 cap ⟨mapTag, z, rows''⟩ ∧ BelowX b1 w.heap.size w w') := by
      obtain ⟨vl, e1, e2, e3⟩ := resm_run hT hs (f := fun
        | .tmp t => pure (a'.tmps.getD t undef)
        | .cell t ty => do loadVar ty (← asAddr (a'.tmps.getD t undef))) (fun t => rfl) (fun t ty => rfl) hres
      refine ⟨hs.dfr, ?_⟩
      match vl, qs, e1, e2, e3 with
      | [], [], e1, _, e3 =>
        refine ⟨.tuple #[], ?_, _, _, _, rfl, ⟨#[], rfl, rfl, fun j p h => by simp at h⟩, hrest⟩
        unfold results; rw [hr, List.mapM_toArray, bind_map_left, Sem.run_bind]; erw [e1]; rfl
      | [v], [q], e1, _, e3 =>
        obtain ⟨v', h1, h2⟩ := e3 0 q rfl
        simp at h1; subst h1
        refine ⟨v, ?_, _, _, _, rfl, h2, hrest⟩
        unfold results; rw [hr, List.mapM_toArray, bind_map_left, Sem.run_bind]; erw [e1]; rfl
      | v :: v2 :: vs', q :: q2 :: qs', e1, e2, e3 =>
        refine ⟨.tuple (v :: v2 :: vs').toArray, ?_, _, _, _, rfl, ⟨_, rfl, by simpa using e2, fun j p hp => ?_⟩, hrest⟩
        · unfold results; rw [hr, List.mapM_toArray, bind_map_left, Sem.run_bind]; erw [e1]; rfl
        · obtain ⟨v', h1, h2⟩ := e3 j p hp
          exact ⟨v', by simpa using h1, h2⟩
    rcases he with rfl | rfl
    · exact hv
    · exact hv
/-- no slot holds an iterator over the map: what a call has put into it -/
theorem AVRel.turnM {n b cap z : Nat} {rows rows' : List (List Cell)} {v : Value} {x : AV} (h : AVRel Φ β A.blks v x) (h1 : lk A.blks n = some ⟨mapTag, z, rows⟩) (hni : x.isItr n = false) : AVRel Φ β ((n, (⟨mapTag, z, rows'⟩ : Blk)) :: A.blks) v x := by
  have hl : ∀ m, m ≠ n → lk ((n, (⟨mapTag, z, rows'⟩ : Blk)) :: A.blks) m = lk A.blks m := fun m hm => by rw [lk_cons, if_neg (Ne.symm hm)]
  have hl0 : lk ((n, (⟨mapTag, z, rows'⟩ : Blk)) :: A.blks) n = some ⟨mapTag, z, rows'⟩ := by rw [lk_cons, if_pos rfl]
  have hno : ∀ {m : Nat} {C : Blk}, lk A.blks m = some C → C.ob = false → m ≠ n := fun {m C} k1 k2 e => by
    subst e; rw [h1] at k1; obtain rfl := Option.some.inj k1; rw [map_ob] at k2; cases k2
  cases x with
  | pv p => exact h
  | tup l => exact h
  | top => trivial
  | addr m i off =>
    obtain ⟨b', cap', C, k1, k2, k3, k4⟩ := h
    exact ⟨b', cap', C, k1, by rw [hl m (hno k2 k3)]; exact k2, k3, k4⟩
  | slc m =>
    obtain ⟨C, k2, k3, k4⟩ := h
    exact ⟨C, by rw [hl m (hno k2 k3)]; exact k2, k3, k4⟩
  | pin m b0 c0 f =>
    obtain ⟨C, k1, k2, k3, k4⟩ := h
    exact ⟨C, k1, by rw [hl m (hno k2 k3)]; exact k2, k3, k4⟩
  | mp m =>
    obtain ⟨b', cap', C, k1, k2, k3, k4⟩ := h
    by_cases e : m = n
    · subst e
      exact ⟨b', cap', _, k1, hl0, rfl, k4⟩
    · exact ⟨b', cap', C, k1, by rw [hl m e]; exact k2, k3, k4⟩
  | mpn m bb =>
    obtain ⟨b', cap', C, k1, k2, k3, k4⟩ := h
    by_cases e : m = n
    · subst e
      exact ⟨b', cap', _, k1, hl0, rfl, k4⟩
    · exact ⟨b', cap', C, k1, by rw [hl m e]; exact k2, k3, k4⟩
  | itr d m =>
    obtain ⟨b', cap', C, M, c, k1, k2, k3, k4, k5, k6⟩ := h
    have e : m ≠ n := fun e => by subst e; simp [AV.isItr] at hni
    have e' : d ≠ n := fun e => by
      subst e; rw [h1] at k2; obtain rfl := Option.some.inj k2; exact absurd k3 tags
    exact ⟨b', cap', C, M, c, k1, by rw [hl d e']; exact k2, k3, k4, by rw [hl m e]; exact k5, k6⟩
theorem Sat.lendM {Φ' : Frz} (hs : Sat G Φ β A a w) {n b cap z : Nat} {rows rows' : List (List Cell)} (h1 : lk A.blks n = some ⟨mapTag, z, rows⟩) (h2 : β n = some (b, cap)) (hni : noItr n A.env = true)
    (hle : Φ.le Φ') (heq : ∀ c, c < w.heap.size → Φ' c = Φ c) (hf : Fits Φ' w') (hb : BlkRel Φ' w' b cap ⟨mapTag, z, rows'⟩) (hx : BelowX b w.heap.size w w') : Sat G Φ' β { A with blks := (n, ⟨mapTag, z, rows'⟩) :: A.blks } a w' := by
  obtain ⟨g1, g2, g3⟩ := hs.blk n _ b cap h1 h2
  have hne : ∀ c, G.K c → c ≠ b := fun c hk e => g2 (e ▸ hk)
  refine ⟨⟨hx.os.trans hs.kept.os, hx.tape.trans hs.kept.tape, hx.output.trans hs.kept.output, Nat.le_trans hs.kept.size hx.size, fun c hk => (hx.block c (Nat.lt_of_lt_of_le (G.lt c hk) hs.kept.size) (hne c hk)).trans (hs.kept.block c hk)⟩, hf,
    fun c hk => (heq c (Nat.lt_of_lt_of_le (G.lt c hk) hs.kept.size)).trans (hs.old c hk), hs.siz, hs.dfr, fun t q v h => ⟨fun hq => (((hs.env t q v h).1 hq).mono hle).turnM (b := b) (cap := cap) h1 ?_, (hs.env t q v h).2⟩, fun m C b' cap' k1 k2 => ?_, fun m C k1 k2 => ?_, fun m m' C C' b' c c' k1 k2 k3 k4 => ?_⟩
  · cases hv : v.isItr n with
    | false => rfl
    | true =>
      cases v with
      | itr d m =>
        have e : m = n := Nat.eq_of_beq_eq_true hv
        subst e
        exact (noItr_at hni t q d h).elim
      | _ => cases hv
  · rw [lk_cons] at k1
    split at k1
    · rename_i e; subst e
      obtain rfl := Option.some.inj k1
      rw [h2] at k2
      simp only [Option.some.injEq, Prod.mk.injEq] at k2
      obtain ⟨rfl, rfl⟩ := k2
      exact ⟨hb, g2, by rw [heq b g1.lt]; exact g3⟩
    · rename_i e
      obtain ⟨q1, q2, q3⟩ := hs.blk m C b' cap' k1 k2
      have hbb : b' ≠ b := fun e' => by subst e'; exact e (hs.inj n m _ C b' cap cap' h1 k1 h2 k2)
      exact ⟨q1.keep hle (hx.block b' q1.lt hbb), q2, by rw [heq b' q1.lt]; exact q3⟩
  · rw [lk_cons] at k1
    split at k1
    · rename_i e; subst e; rw [h2] at k2; cases k2
    · exact hs.vir m C k1 k2
  · have hk : ∀ m C, lk ((n, (⟨mapTag, z, rows'⟩ : Blk)) :: A.blks) m = some C → ∃ C0, lk A.blks m = some C0 := fun m C h => by
      rw [lk_cons] at h
      split at h
      · rename_i e; subst e; exact ⟨_, h1⟩
      · exact ⟨C, h⟩
    obtain ⟨C0, e0⟩ := hk m C k1
    obtain ⟨C1, e1⟩ := hk m' C' k2
    exact hs.inj m m' C0 C1 b' c c' e0 e1 k3 k4
theorem E_callp {o : Oper} {f : FuncId} {xs : List Operand} {ats : Array TypeId} {ps : Nat → List PV} {z d m b g : Nat} {rows : List (List Cell)} {r : AV} {I : List (List Cell) → Prop} (ho : o.op = .call { callee := .value (.func f), args := xs.toArray, argTypes := ats }) (hd : o.dst = some d) (hn : d < A.n)
    (hg : lk A.env g = some (True, .mpn m b)) (hl : lk A.blks m = some ⟨mapTag, z, rows⟩) (hx : EvD A True xs (ps b)) (hni : noItr m A.env = true) (hI : I rows) (hc : PCalls P f z ps r I) :
    EffF P G A o (fun s : { rows' : List (List Cell) // I rows' } => { A with blks := (m, ⟨mapTag, z, s.1⟩) :: A.blks }.set d True r) := fun Φ β a w hs => by
  unfold Oper.wp
  rw [call_run ho hc.fn]
  obtain ⟨b1, cap, B, k1, k2, k3, rfl⟩ := (hs.env g True _ hg).1 trivial
  rw [hl] at k2
  obtain rfl := Option.some.inj k2
  obtain ⟨g1, g2, g3⟩ := hs.blk m _ b1 cap hl k1
  refine Calls.mono (hc.calls Φ w _ b1 cap rows hI hs.fits ⟨by simp [evd_len hx], fun j q hq => ?_⟩ g3 g1) ?_
  · obtain ⟨x, h1, h2⟩ := evd_args hs trivial hx j q hq
    exact ⟨a.eval x, by simp [h1], h2⟩
  · rintro e w' ⟨v, Φ', rows', rfl, hv, hle, heq, hfit, hI, hbl, hb⟩
    have hs' := hs.lendM (rows' := rows') hl k1 hni hle heq hfit hbl hb
    show ∃ s Φ'' β', Sat G Φ'' β' _ (a.put o.dst v) w' ∧ Φ.le Φ''
    rw [hd]
    exact ⟨⟨rows', hI⟩, Φ', β, hs'.put hn hv.ret, hle⟩
/-- a map's place, as1 data -/
theorem rel_mpa {b : Nat} {v : Value} (h : Rel Φ v (.mpa b)) : v = .map (some b) := by cases h; rfl
end
section
variable {P : Program} {G : Ghost} {ops : Array Oper} {rest : List Oper} {Q : St → Prop} {n0 : Nat} {env : List (Nat × (Prop × AV))} {bl : List (Nat × Blk)} {p : Prop} {dst : Option Nat} {ty : TypeId} {pos : String} {after : Array Edge} {gd : Option (Nat × Bool)}
theorem S_callp {f : FuncId} {xs : List Operand} {ats : Array TypeId} {ps : Nat → List PV} {z d m b g : Nat} {rows : List (List Cell)} {r : AV} {I : List (List Cell) → Prop} (hc : PCalls P f z ps r I)
    (hg : lk env g = some (True, .mpn m b)) (hl : lk bl m = some ⟨mapTag, z, rows⟩) (hn : Nat.blt d n0 = true) (hni : noItr m env = true) (hI : I rows) (hx : EvD (St.mk n0 env bl) True xs (ps b))
    (h : ∀ rows', I rows' → RG P G ops rest Q (St.mk n0 ((d, (True, r)) :: env) ((m, ⟨mapTag, z, rows'⟩) :: bl))) : RG P G ops (⟨some d, .call ⟨.value (.func f), xs.toArray, ats⟩, ty, pos, after, none⟩ :: rest) Q (St.mk n0 env bl) :=
  RG.effF rfl (E_callp (A := St.mk n0 env bl) rfl rfl (blt_lt hn) hg hl hx hni hI hc) fun s => h s.1 s.2
/-- the place of a map of one's own -/
theorem RG.mplace {t n : Nat} {C : Blk} (ht : lk env t = some (True, .mp n)) (h : ∀ b, RG P G ops rest Q (St.mk n0 ((t, (True, .pv (.one (.mpa b)))) :: (1000000, (True, .mpn n b)) :: env) bl)) :
    RG P G ops rest Q (St.mk n0 env bl) := fun Φ β a w hs Q' hq => by
  obtain ⟨b, cap, B, h1, h2, h3, h4⟩ := (hs.env t True _ ht).1 trivial
  refine h b Φ β a w ⟨hs.kept, hs.fits, hs.old, hs.siz, hs.dfr, fun s q v h5 => ?_, hs.blk, hs.vir, hs.inj⟩ Q' hq
  rw [lk_cons] at h5
  split at h5
  · rename_i e; subst e
    simp only [Option.some.injEq, Prod.mk.injEq] at h5
    obtain ⟨rfl, rfl⟩ := h5
    refine ⟨fun _ => ?_, fun hq => (hq trivial).elim⟩
    show Rel _ _ _
    rw [h4]; exact Rel.mpa b
  · rw [lk_cons] at h5
    split at h5
    · simp only [Option.some.injEq, Prod.mk.injEq] at h5
      obtain ⟨rfl, rfl⟩ := h5
      exact ⟨fun _ => ⟨b, cap, B, h1, h2, h3, rfl⟩, fun hq => (hq trivial).elim⟩
    · exact hs.env s q v h5
variable {T : TT} (hT : TOK P T)
include hT
/-- a map out of a struct that stands still -/
theorem Q_loadMp {t g m b : Nat} {x : Operand} {ti : TI} {cs : List Cell} {B : Blk} (hg : lk env g = some (True, .mpn m b)) (hl : lk bl m = some B) (hE : B.E = mapTag) (ht : T t = some ti) (hb : ti.kind.isAgg = some false) (hx : Ev (St.mk n0 env bl) p x (.pv (.one (.ptr (.mpa b :: cs))))) :
    PureOp P G (St.mk n0 env bl) ⟨dst, .load t x, ty, pos, after, gd⟩ p (.mp m) :=
  PureOp.conv (v := .pv (.one (.mpa b))) (Q_loadp hT ht hb hx rfl) fun Φ β a w hs Φ' u h => by
    obtain ⟨b1, cap, B1, k1, k2, k3, rfl⟩ := (hs.env g True _ hg).1 trivial
    exact ⟨b1, cap, B1, k1, k2, k3, rel_mpa h⟩
end
end Lf
end
section
set_option linter.unusedVariables false
set_option linter.unusedSimpArgs false
set_option maxHeartbeats 8000000
set_option linter.unusedSectionVars false
namespace Go.Proofs.Ytjedkgogjehigaa
open Lf Go
attribute [local irreducible] PureOp EffOp Ev RG W Then InBlock Lf.Fin nth App InitE Pick SubE EvL EvD EvP EvR ResL Lf.Lex SubR SubBR EvC FinO FinM ResM ResD FinS val pw digs trimL
section
structure Fq where
  s : Int
  d : List Int
  s' : Int
  d' : List Int
instance : Inhabited Fq := ⟨⟨0, [], 0, []⟩⟩
instance : Inhabited Rat := ⟨0⟩
abbrev encF (q : Fq) : List Cell := [.int .i64 q.s, .sl (q.d.map Lf.encI), .int .i64 q.s', .sl (q.d'.map Lf.encI)]
abbrev encQ (r : Rat) : List Cell := [.int .i64 (sgn r.num), .sl ((digs (mag r.num)).map Lf.encI), .int .i64 (sgn r.den), .sl ((digs (mag r.den)).map Lf.encI)]
abbrev fqV (q : Fq) : PV := fB q.s q.d q.s' q.d'
abbrev slF (l : List Fq) : PV := .one (.sl (l.map encF))
abbrev slQ (l : List Rat) : PV := .one (.sl (l.map encQ))
def fqOf (r : Rat) : Fq := ⟨sgn r.num, digs (mag r.num), sgn r.den, digs (mag r.den)⟩
theorem slF_of (L : List Rat) : (L.map fqOf).map encF = L.map encQ := by rw [List.map_map]; rfl
def Fq.right (q : Fq) : Bool := rightFB q.s q.d q.s' q.d'
def FqOk (q : Fq) : Prop := q.d.length ≤ 9223372036854775807 ∧ q.d'.length ≤ 9223372036854775807
theorem Fq.rat {q : Fq} (h : q.right = true) : ∃ r : Rat, okF r ∧ q = fqOf r := by
  obtain ⟨r, h1, h2, h3, h4, h5⟩ := frac_of h
  refine ⟨r, h1, ?_⟩
  cases q
  simp only at h2 h3 h4 h5
  rw [h2, h3, h4, h5]; rfl
theorem rats {L : List Fq} (h : (L.any fun q => !q.right) = false) : ∃ R : List Rat, (∀ r ∈ R, okF r) ∧ L = R.map fqOf := by
  induction L with
  | nil => exact ⟨[], by simp, rfl⟩
  | cons q L ih =>
    simp only [List.any_cons, Bool.or_eq_false_iff, Bool.not_eq_false'] at h
    obtain ⟨r, h1, h2⟩ := Fq.rat h.1
    obtain ⟨R, h3, h4⟩ := ih h.2
    exact ⟨r :: R, fun x hx => (List.mem_cons.1 hx).elim (fun e => e ▸ h1) (h3 x), by rw [h2, h4]; rfl⟩
structure Let where
  name : Str
  body : Exp
instance : Inhabited Let := ⟨⟨[], default⟩⟩
def encL (x : Let) : List Cell := [.str x.name, .int .i64 x.body.op, .int .i64 x.body.n, .int .i64 x.body.u, .str x.body.s, .sl (x.body.args.map encE)]
abbrev aL (x : Let) : PV := .agg (encL x)
abbrev slL (l : List Let) : PV := .one (.sl (l.map encL))
theorem indexL_ok (l : List Let) (f : Nat) (caps : List Cell) (p : Let → Bool) (hl : l.length ≤ 9223372036854775807) (hp : ∀ x ∈ l, ACalls Try.prog f (aL x :: caps.map PV.one) (.pv (cB (p x)))) : ACalls Try.prog 41 [slL l, .one (.fn f caps)] (.pv (cI (fidx p l))) := by
  refine ACalls.of_W (qs := [cI (fidx p l)]) [4] 19 Try.func41 (by kernel_rfl) rfl rfl rfl fun G => ?_
  refine W.initA (hw := ?_)
  repeat' (first | ((first | apply U_); (first | exact QX.B TYok | exact QX.Len TYok | exact QX.Idx TYok); exact rfl) | refine SC ?_ | (refine W.condA (ht := fun hb => ?_) (hf := fun hb => ?_) <;> (try simp at hb) <;> (try (exfalso; omega))))
  apply W.loopP (σ := Nat) 19 [0, 1, 7] (fun k => k ≤ l.length ∧ (l.take k).any p = false) (fun k => [(8, vI k)]) (fun _ => []) (fun k => l.length - k) (0)
  case hp => repeat (first | exact Pick.nil | apply Pick.cons rfl)
  case h0 =>
    refine ⟨by simp, ?_⟩
    exact Le.auto
  case round =>
    rintro k ⟨h1, h2⟩
    apply W.norm (by repeat (first | exact App.nil | apply App.cons))
    by_cases hk : k < l.length
    · repeat' (first | ((first | apply U_); (first | exact QX.B TYok | exact QX.Len TYok | exact QX.Idx TYok | (apply Q_callvA (hp (nth l k) (nth_mem hk)); exact Ev.auto; exact EvA.auto)); exact rfl) | refine SC ?_ | (refine W.condA (ht := fun hb => ?_) (hf := fun hb => ?_) <;> (try simp at hb) <;> (try (exfalso; omega))))
      · rw [fidx_hit ‹_› h2 hb]
        exact Fin.ret ResL.auto
      · refine ⟨k + 1, ⟨by omega, ?_⟩, ?_, ?_⟩
        · rw [any_take ‹_›, h2, hb]; rfl
        · exact Le.auto
        · (try simp only); omega
    · obtain rfl : k = l.length := by omega
      rw [List.take_length] at h2
      repeat' (first | ((first | apply U_); (first | exact QX.B TYok | exact QX.Len TYok | exact QX.Idx TYok); exact rfl) | refine SC ?_ | (refine W.condA (ht := fun hb => ?_) (hf := fun hb => ?_) <;> (try simp at hb) <;> (try (exfalso; omega))))
      rw [fidx_miss h2]
      exact Fin.ret ResL.auto
theorem containsL_ok (l : List Let) (f : Nat) (caps : List Cell) (p : Let → Bool) (hl : l.length ≤ 9223372036854775807) (hp : ∀ x ∈ l, ACalls Try.prog f (aL x :: caps.map PV.one) (.pv (cB (p x)))) : ACalls Try.prog 25 [slL l, .one (.fn f caps)] (.pv (cB (l.any p))) := by
  refine ACalls.of_W (qs := [cB (l.any p)]) [4] 9 Try.func25 (by kernel_rfl) rfl rfl rfl fun G => ?_
  refine W.initA (hw := ?_)
  repeat' (first | ((first | apply U_); (first | exact QX.B TYok | exact QCl (indexL_ok l f caps p hl hp)); exact rfl) | refine SC ?_ | (refine W.condA (ht := fun hb => ?_) (hf := fun hb => ?_) <;> (try simp at hb) <;> (try (exfalso; omega))))
  rw [← fidx_nn]
  exact Fin.ret ResL.auto
theorem indexF_ok (l : List Fq) (f : Nat) (caps : List Cell) (p : Fq → Bool) (hl : l.length ≤ 9223372036854775807) (hp : ∀ x ∈ l, ACalls Try.prog f (fqV x :: caps.map PV.one) (.pv (cB (p x)))) : ACalls Try.prog 64 [slF l, .one (.fn f caps)] (.pv (cI (fidx p l))) := by
  refine ACalls.of_W (qs := [cI (fidx p l)]) [4] 19 Try.func64 (by kernel_rfl) rfl rfl rfl fun G => ?_
  refine W.initA (hw := ?_)
  repeat' (first | ((first | apply U_); (first | exact QX.B TYok | exact QX.Len TYok | exact QX.Idx TYok); exact rfl) | refine SC ?_ | (refine W.condA (ht := fun hb => ?_) (hf := fun hb => ?_) <;> (try simp at hb) <;> (try (exfalso; omega))))
  apply W.loopP (σ := Nat) 19 [0, 1, 7] (fun k => k ≤ l.length ∧ (l.take k).any p = false) (fun k => [(8, vI k)]) (fun _ => []) (fun k => l.length - k) (0)
  case hp => repeat (first | exact Pick.nil | apply Pick.cons rfl)
  case h0 =>
    refine ⟨by simp, ?_⟩
    exact Le.auto
  case round =>
    rintro k ⟨h1, h2⟩
    apply W.norm (by repeat (first | exact App.nil | apply App.cons))
    by_cases hk : k < l.length
    · repeat' (first | ((first | apply U_); (first | exact QX.B TYok | exact QX.Len TYok | exact QX.Idx TYok | (apply Q_callvA (hp (nth l k) (nth_mem hk)); exact Ev.auto; exact EvA.auto)); exact rfl) | refine SC ?_ | (refine W.condA (ht := fun hb => ?_) (hf := fun hb => ?_) <;> (try simp at hb) <;> (try (exfalso; omega))))
      · rw [fidx_hit ‹_› h2 hb]
        exact Fin.ret ResL.auto
      · refine ⟨k + 1, ⟨by omega, ?_⟩, ?_, ?_⟩
        · rw [any_take ‹_›, h2, hb]; rfl
        · exact Le.auto
        · (try simp only); omega
    · obtain rfl : k = l.length := by omega
      rw [List.take_length] at h2
      repeat' (first | ((first | apply U_); (first | exact QX.B TYok | exact QX.Len TYok | exact QX.Idx TYok); exact rfl) | refine SC ?_ | (refine W.condA (ht := fun hb => ?_) (hf := fun hb => ?_) <;> (try simp at hb) <;> (try (exfalso; omega))))
      rw [fidx_miss h2]
      exact Fin.ret ResL.auto
theorem containsF_ok (l : List Fq) (f : Nat) (caps : List Cell) (p : Fq → Bool) (hl : l.length ≤ 9223372036854775807) (hp : ∀ x ∈ l, ACalls Try.prog f (fqV x :: caps.map PV.one) (.pv (cB (p x)))) : ACalls Try.prog 43 [slF l, .one (.fn f caps)] (.pv (cB (l.any p))) := by
  refine ACalls.of_W (qs := [cB (l.any p)]) [4] 9 Try.func43 (by kernel_rfl) rfl rfl rfl fun G => ?_
  refine W.initA (hw := ?_)
  repeat' (first | ((first | apply U_); (first | exact QX.B TYok | exact QCl (indexF_ok l f caps p hl hp)); exact rfl) | refine SC ?_ | (refine W.condA (ht := fun hb => ?_) (hf := fun hb => ?_) <;> (try simp at hb) <;> (try (exfalso; omega))))
  rw [← fidx_nn]
  exact Fin.ret ResL.auto
structure EnvV where
  names : List Str
  vals : List Fq
  iss : List Str
  rates : List Fq
structure EnvV.Len (v : EnvV) : Prop where
  h1 : v.names.length ≤ 9223372036854775807
  h2 : v.vals.length ≤ 9223372036854775807
  h3 : v.iss.length ≤ 9223372036854775807
  h4 : v.rates.length ≤ 9223372036854775807
  q1 : ∀ q ∈ v.vals, FqOk q
  q2 : ∀ q ∈ v.rates, FqOk q
abbrev encEnv (v : EnvV) : List Cell := [.sl (v.names.map encS), .sl (v.vals.map encF), .sl (v.iss.map encS), .sl (v.rates.map encF)]
def validF (v : EnvV) : Bool := ((decide ((v.names.length : Int) = v.vals.length) && decide ((v.iss.length : Int) = v.rates.length)) && !(v.vals.any fun q => !q.right)) && !(v.rates.any fun q => !q.right)
inductive Rs where
  | ok (r : Rat)
  | err (e : Int)
instance : Inhabited Rs := ⟨.err 0⟩
def Rs.v : Rs → PV
  | .ok r => zF r
  | .err _ => zF0
def Rs.e : Rs → Int
  | .ok _ => 0
  | .err e => e
/-- a right fraction, or an error that is one -/
def Rs.fit : Rs → Prop
  | .ok r => okF r
  | .err e => e ≠ 0
abbrev resP (R : Rs) : AV := .tup [R.v, cI R.e]
def one01 (b : Bool) : Rat := if b then 1 else 0
theorem one01_eq (b : Bool) : one01 b = Rat.divInt (if b then 1 else 0) 1 := by cases b <;> decide +kernel
theorem one01_ok (b : Bool) : okF (one01 b) := by
  cases b
  · exact okF_int (n := 0) (by unfold i64B; omega)
  · exact okF_int (n := 1) (by unfold i64B; omega)
theorem truth_ok (b : Bool) : ACalls Try.prog 47 [cB b] (.tup [zF (one01 b), cI 0]) := by
  have n1 := Of_ok (if b then 1 else 0) 1 (by cases b <;> (unfold i64B; simp)) (by unfold i64B; omega) (by omega)
  rw [← one01_eq] at n1
  generalize one01 b = r at *
  cases b
  all_goals (
    simp only [Bool.false_eq_true, if_true, if_false] at n1
    refine ACalls.of_M TYok (qs := [zF r, cI 0]) [.cell 2 40, .tmp 3] 10 Try.func47 (by kernel_rfl) rfl rfl rfl fun G => ?_
    refine W.initA (hw := ?_)
    repeat' (first | ((first | apply U_); (first | exact QX.B TYok | exact QX.Ext TYok | exact QCd (n1)); exact rfl) | refine SX.Alloc TYok (h := ?_) | refine SX.Store TYok (h := ?_) | refine SC ?_ | (refine W.condA (ht := fun hb => ?_) (hf := fun hb => ?_) <;> (try simp at hb) <;> (try (exfalso; omega))))
    all_goals exact FinM.ret ResM.auto)
def lookF (names : List Str) (vals : List Rat) (s : Str) : Rs := if s ∈ names then .ok (nth vals (names.idxOf s)) else .err 14
theorem lookup_ok (names : List Str) (vals : List Rat) (s : Str) (hl : names.length ≤ 9223372036854775807) (he : names.length = vals.length) : ACalls Try.prog 46 [slS names, slQ vals, cS s] (resP (lookF names vals s)) := by
  have h1 := index_ok names s hl
  unfold lookF
  by_cases hm : s ∈ names
  · have hi := List.idxOf_lt_length_iff.2 hm
    rw [if_pos hm] at h1
    rw [if_pos hm]
    generalize names.idxOf s = i at *
    refine ACalls.of_M TYok (qs := [zF (nth vals i), cI 0]) [.cell 6 40, .tmp 7] 19 Try.func46 (by kernel_rfl) rfl rfl rfl fun G => ?_
    refine W.initA (hw := ?_)
    repeat' (first | ((first | apply U_); (first | exact QX.B TYok | exact QX.Idx TYok | exact QX.Build TYok | exact QCd (h1)); exact rfl) | refine SX.Alloc TYok (h := ?_) | refine SX.Store TYok (h := ?_) | refine SC ?_ | (refine W.condA (ht := fun hb => ?_) (hf := fun hb => ?_) <;> (try simp at hb) <;> (try (exfalso; omega))))
    all_goals exact FinM.ret ResM.auto
  · rw [if_neg hm] at h1
    rw [if_neg hm]
    refine ACalls.of_M TYok (qs := [zF0, cI 14]) [.cell 6 40, .tmp 7] 19 Try.func46 (by kernel_rfl) rfl rfl rfl fun G => ?_
    refine W.initA (hw := ?_)
    repeat' (first | ((first | apply U_); (first | exact QX.B TYok | exact QX.Idx TYok | exact QX.Build TYok | exact QCd (h1)); exact rfl) | refine SX.Alloc TYok (h := ?_) | refine SX.Store TYok (h := ?_) | refine SC ?_ | (refine W.condA (ht := fun hb => ?_) (hf := fun hb => ?_) <;> (try simp at hb) <;> (try (exfalso; omega))))
    all_goals exact FinM.ret (ResM.cell rfl rfl rfl rfl zeroSubF (ResM.tmp rfl rfl PSub.rfl' ResM.nil))
open Classical in
noncomputable def addR (a b : Rat) : Rs := if addOk a b then .ok (a + b) else .err 6
open Classical in
noncomputable def subR (a b : Rat) : Rs := if subOk a b then .ok (a - b) else .err 6
open Classical in
noncomputable def mulR (a b : Rat) : Rs := if mulOk a b then .ok (a * b) else .err 6
open Classical in
noncomputable def divR (a b : Rat) : Rs := if b.num = 0 then .err 15 else if divOk a b then .ok (a / b) else .err 6
noncomputable def binF (op : Int) (a b : Rat) : Rs :=
  if op = 4 then addR a b else if op = 5 then subR a b else if op = 6 then mulR a b else if op = 7 then divR a b
  else if op = 8 then .ok (if cmpR a b ≤ 0 then a else b) else if op = 9 then .ok (if cmpR a b ≤ 0 then b else a)
  else if op = 10 then .ok (one01 (decide (cmpR a b < 0))) else if op = 11 then .ok (one01 (decide (cmpR a b = 0))) else .ok (one01 (!decide (sgn b.num = 0)))
theorem addR_fit (a b : Rat) : (addR a b).fit := by
  unfold addR; split
  · exact addOk_okF ‹_›
  · exact (by decide : (6 : Int) ≠ 0)
theorem subR_fit (a b : Rat) : (subR a b).fit := by
  unfold subR; split
  · rw [Rat.sub_eq_add_neg]; exact addOk_okF ((sub_add a b).1 ‹_›)
  · exact (by decide : (6 : Int) ≠ 0)
theorem mulR_fit (a b : Rat) : (mulR a b).fit := by
  unfold mulR; split
  · exact mulOk_okF ‹_›
  · exact (by decide : (6 : Int) ≠ 0)
theorem divR_fit (a b : Rat) : (divR a b).fit := by
  unfold divR; split
  · exact (by decide : (15 : Int) ≠ 0)
  · split
    · rename_i h0 h
      rw [show (Rs.ok (a / b)).fit = okF (a / b) from rfl, rat_div a b h0]
      exact okF_of h.1 h.2 (mul_ne (den_ne a) h0)
    · exact (by decide : (6 : Int) ≠ 0)
theorem binF_fit (op : Int) {a b : Rat} (ha : okF a) (hb : okF b) : (binF op a b).fit := by
  unfold binF
  repeat' split
  · exact addR_fit a b
  · exact subR_fit a b
  · exact mulR_fit a b
  · exact divR_fit a b
  all_goals first
    | exact ha
    | exact hb
    | exact one01_ok _
    | (show okF _; split <;> assumption)
theorem add_all (a b : Rat) (ha : okF a) (hb : okF b) : ACalls Try.prog 69 [zF a, zF b] (resP (addR a b)) := by
  unfold addR; split
  · exact add_yes a b ha hb ‹_›
  · exact add_no a b ha hb ‹_›
theorem sub_all (a b : Rat) (ha : okF a) (hb : okF b) : ACalls Try.prog 70 [zF a, zF b] (resP (subR a b)) := by
  unfold subR; split
  · exact fsub_yes a b ha hb ((sub_add a b).1 ‹_›)
  · exact fsub_no a b ha hb ‹_›
theorem mul_all (a b : Rat) (ha : okF a) (hb : okF b) : ACalls Try.prog 71 [zF a, zF b] (resP (mulR a b)) := by
  unfold mulR; split
  · exact fmul_yes a b ha hb ‹_›
  · exact fmul_no a b ha hb ‹_›
theorem div_all (a b : Rat) (ha : okF a) (hb : okF b) : ACalls Try.prog 72 [zF a, zF b] (resP (divR a b)) := by
  unfold divR; split
  · exact fdiv_zero a b ha hb ‹_›
  · split
    · exact fdiv_yes a b ha hb ‹_› ‹_›
    · exact fdiv_no a b ha hb ‹_› ‹_›
attribute [local irreducible] sgn mag gcdZ quoZ remZ fullZ fullE
theorem Rs.v_agg (R : Rs) : ∃ (x1 : Int) (x2 : List Int) (x3 : Int) (x4 : List Int), R.v = .agg [.int .i64 x1, .sl (x2.map Lf.encI), .int .i64 x3, .sl (x4.map Lf.encI)] := by
  cases R with
  | ok r => exact ⟨_, _, _, _, rfl⟩
  | err e => exact ⟨0, [], 0, [], rfl⟩
theorem bin_call {op : Int} {f : Nat} {a b : Rat} {R : Rs} (ha : okF a) (hb : okF b) (hf : (op = 4 ∧ f = 69) ∨ (op = 5 ∧ f = 70) ∨ (op = 6 ∧ f = 71) ∨ (op = 7 ∧ f = 72)) (hc : ACalls Try.prog f [zF a, zF b] (resP R)) : ACalls Try.prog 48 [cI op, zF a, zF b] (resP R) := by
  have h1 := fcmp_ok a b ha hb
  obtain ⟨x1, x2, x3, x4, hv⟩ := R.v_agg
  unfold resP at hc ⊢
  rw [hv] at hc ⊢
  generalize R.e = e at *
  generalize cmpR a b = c at *
  rcases hf with ⟨rfl, rfl⟩ | ⟨rfl, rfl⟩ | ⟨rfl, rfl⟩ | ⟨rfl, rfl⟩
  all_goals (
    refine ACalls.of_M TYok (qs := [.agg [.int .i64 x1, .sl (x2.map Lf.encI), .int .i64 x3, .sl (x4.map Lf.encI)], cI e]) [.cell 6 40, .tmp 7] 72 Try.func48 (by kernel_rfl) rfl rfl rfl fun G => ?_
    refine W.initA (hw := ?_)
    repeat' (first | ((first | apply U_); (first | exact QX.B TYok | exact QX.Ext TYok | exact QCd (h1) | exact QCd (hc)); exact rfl) | refine SX.Alloc TYok (h := ?_) | refine SX.Store TYok (h := ?_) | refine SX.Box TYok (h := ?_) | refine SC ?_ | (apply S_isnil TYok; exact rfl; exact rfl; exact rfl; exact Ev.auto; intro bn hnil) | (refine W.condA (ht := fun hb => ?_) (hf := fun hb => ?_) <;> (try simp at hb) <;> (try (exfalso; omega))))
    all_goals exact FinM.ret ResM.auto)
theorem bin_truth {op : Int} {a b : Rat} (ha : okF a) (hb : okF b) (hop : op = 10 ∨ op = 11 ∨ op = 13 ∨ op = 14) : ACalls Try.prog 48 [cI op, zF a, zF b] (.tup [zF (one01 (if op = 10 then decide (cmpR a b < 0) else if op = 11 then decide (cmpR a b = 0) else !decide (sgn b.num = 0))), cI 0]) := by
  have h1 := fcmp_ok a b ha hb
  rcases hop with rfl | rfl | rfl | rfl
  · rw [if_pos rfl]
    have t1 := truth_ok (decide (cmpR a b < 0))
    generalize cmpR a b = c at *
    generalize one01 (decide (c < 0)) = r at *
    refine ACalls.of_M TYok (qs := [zF r, cI 0]) [.cell 6 40, .tmp 7] 72 Try.func48 (by kernel_rfl) rfl rfl rfl fun G => ?_
    refine W.initA (hw := ?_)
    repeat' (first | ((first | apply U_); (first | exact QX.B TYok | exact QX.Ext TYok | exact QCd (h1) | exact QCd (t1)); exact rfl) | refine SX.Alloc TYok (h := ?_) | refine SX.Store TYok (h := ?_) | refine SX.Box TYok (h := ?_) | refine SC ?_ | (apply S_isnil TYok; exact rfl; exact rfl; exact rfl; exact Ev.auto; intro bn hnil) | (refine W.condA (ht := fun hb => ?_) (hf := fun hb => ?_) <;> (try simp at hb) <;> (try (exfalso; omega))))
    all_goals exact FinM.ret ResM.auto
  · rw [if_neg (by omega), if_pos rfl]
    have t1 := truth_ok (decide (cmpR a b = 0))
    generalize cmpR a b = c at *
    generalize one01 (decide (c = 0)) = r at *
    refine ACalls.of_M TYok (qs := [zF r, cI 0]) [.cell 6 40, .tmp 7] 72 Try.func48 (by kernel_rfl) rfl rfl rfl fun G => ?_
    refine W.initA (hw := ?_)
    repeat' (first | ((first | apply U_); (first | exact QX.B TYok | exact QX.Ext TYok | exact QCd (h1) | exact QCd (t1)); exact rfl) | refine SX.Alloc TYok (h := ?_) | refine SX.Store TYok (h := ?_) | refine SX.Box TYok (h := ?_) | refine SC ?_ | (apply S_isnil TYok; exact rfl; exact rfl; exact rfl; exact Ev.auto; intro bn hnil) | (refine W.condA (ht := fun hb => ?_) (hf := fun hb => ?_) <;> (try simp at hb) <;> (try (exfalso; omega))))
    all_goals exact FinM.ret ResM.auto
  all_goals (
    rw [if_neg (by omega), if_neg (by omega)]
    have t1 := truth_ok (!decide (sgn b.num = 0))
    generalize cmpR a b = c at *
    generalize one01 (!decide (sgn b.num = 0)) = r at *
    refine ACalls.of_M TYok (qs := [zF r, cI 0]) [.cell 6 40, .tmp 7] 72 Try.func48 (by kernel_rfl) rfl rfl rfl fun G => ?_
    refine W.initA (hw := ?_)
    repeat' (first | ((first | apply U_); (first | exact QX.B TYok | exact QX.Ext TYok | exact QCd (h1) | exact QCd (t1)); exact rfl) | refine SX.Alloc TYok (h := ?_) | refine SX.Store TYok (h := ?_) | refine SX.Box TYok (h := ?_) | refine SC ?_ | (apply S_isnil TYok; exact rfl; exact rfl; exact rfl; exact Ev.auto; intro bn hnil) | (refine W.condA (ht := fun hb => ?_) (hf := fun hb => ?_) <;> (try simp at hb) <;> (try (exfalso; omega))))
    all_goals exact FinM.ret ResM.auto)
theorem bin_pick {op : Int} {a b : Rat} (ha : okF a) (hb : okF b) (hop : op = 8 ∨ op = 9) : ACalls Try.prog 48 [cI op, zF a, zF b] (.tup [zF (if op = 8 then (if cmpR a b ≤ 0 then a else b) else (if cmpR a b ≤ 0 then b else a)), cI 0]) := by
  have h1 := fcmp_ok a b ha hb
  rcases hop with rfl | rfl
  · rw [if_pos rfl]
    generalize cmpR a b = c at *
    by_cases hc : c ≤ 0
    · rw [if_pos hc]
      refine ACalls.of_M TYok (qs := [zF a, cI 0]) [.cell 6 40, .tmp 7] 72 Try.func48 (by kernel_rfl) rfl rfl rfl fun G => ?_
      refine W.initA (hw := ?_)
      repeat' (first | ((first | apply U_); (first | exact QX.B TYok | exact QX.Ext TYok | exact QCd (h1)); exact rfl) | refine SX.Alloc TYok (h := ?_) | refine SX.Store TYok (h := ?_) | refine SX.Box TYok (h := ?_) | refine SC ?_ | (apply S_isnil TYok; exact rfl; exact rfl; exact rfl; exact Ev.auto; intro bn hnil) | (refine W.condA (ht := fun hb => ?_) (hf := fun hb => ?_) <;> (try simp at hb) <;> (try (exfalso; omega))))
      all_goals exact FinM.ret ResM.auto
    · rw [if_neg hc]
      refine ACalls.of_M TYok (qs := [zF b, cI 0]) [.cell 6 40, .tmp 7] 72 Try.func48 (by kernel_rfl) rfl rfl rfl fun G => ?_
      refine W.initA (hw := ?_)
      repeat' (first | ((first | apply U_); (first | exact QX.B TYok | exact QX.Ext TYok | exact QCd (h1)); exact rfl) | refine SX.Alloc TYok (h := ?_) | refine SX.Store TYok (h := ?_) | refine SX.Box TYok (h := ?_) | refine SC ?_ | (apply S_isnil TYok; exact rfl; exact rfl; exact rfl; exact Ev.auto; intro bn hnil) | (refine W.condA (ht := fun hb => ?_) (hf := fun hb => ?_) <;> (try simp at hb) <;> (try (exfalso; omega))))
      all_goals exact FinM.ret ResM.auto
  · rw [if_neg (by omega)]
    generalize cmpR a b = c at *
    by_cases hc : c ≤ 0
    · rw [if_pos hc]
      refine ACalls.of_M TYok (qs := [zF b, cI 0]) [.cell 6 40, .tmp 7] 72 Try.func48 (by kernel_rfl) rfl rfl rfl fun G => ?_
      refine W.initA (hw := ?_)
      repeat' (first | ((first | apply U_); (first | exact QX.B TYok | exact QX.Ext TYok | exact QCd (h1)); exact rfl) | refine SX.Alloc TYok (h := ?_) | refine SX.Store TYok (h := ?_) | refine SX.Box TYok (h := ?_) | refine SC ?_ | (apply S_isnil TYok; exact rfl; exact rfl; exact rfl; exact Ev.auto; intro bn hnil) | (refine W.condA (ht := fun hb => ?_) (hf := fun hb => ?_) <;> (try simp at hb) <;> (try (exfalso; omega))))
      all_goals exact FinM.ret ResM.auto
    · rw [if_neg hc]
      refine ACalls.of_M TYok (qs := [zF a, cI 0]) [.cell 6 40, .tmp 7] 72 Try.func48 (by kernel_rfl) rfl rfl rfl fun G => ?_
      refine W.initA (hw := ?_)
      repeat' (first | ((first | apply U_); (first | exact QX.B TYok | exact QX.Ext TYok | exact QCd (h1)); exact rfl) | refine SX.Alloc TYok (h := ?_) | refine SX.Store TYok (h := ?_) | refine SX.Box TYok (h := ?_) | refine SC ?_ | (apply S_isnil TYok; exact rfl; exact rfl; exact rfl; exact Ev.auto; intro bn hnil) | (refine W.condA (ht := fun hb => ?_) (hf := fun hb => ?_) <;> (try simp at hb) <;> (try (exfalso; omega))))
      all_goals exact FinM.ret ResM.auto
theorem binary_ok (op : Int) {a b : Rat} (ha : okF a) (hb : okF b) (hop : (4 ≤ op ∧ op ≤ 11) ∨ op = 13 ∨ op = 14) : ACalls Try.prog 48 [cI op, zF a, zF b] (resP (binF op a b)) := by
  by_cases h4 : op = 4
  · subst h4; exact bin_call ha hb (.inl ⟨rfl, rfl⟩) (add_all a b ha hb)
  by_cases h5 : op = 5
  · subst h5; exact bin_call ha hb (.inr (.inl ⟨rfl, rfl⟩)) (sub_all a b ha hb)
  by_cases h6 : op = 6
  · subst h6; exact bin_call ha hb (.inr (.inr (.inl ⟨rfl, rfl⟩))) (mul_all a b ha hb)
  by_cases h7 : op = 7
  · subst h7; exact bin_call ha hb (.inr (.inr (.inr ⟨rfl, rfl⟩))) (div_all a b ha hb)
  unfold binF
  rw [if_neg h4, if_neg h5, if_neg h6, if_neg h7]
  by_cases h8 : op = 8
  · subst h8; exact bin_pick ha hb (.inl rfl)
  by_cases h9 : op = 9
  · subst h9; exact bin_pick ha hb (.inr rfl)
  rw [if_neg h8, if_neg h9]
  have ht := bin_truth (op := op) ha hb (by omega)
  by_cases h10 : op = 10
  · subst h10; exact ht
  by_cases h11 : op = 11
  · subst h11; exact ht
  rw [if_neg h10, if_neg h11] at ht ⊢
  exact ht
end
end Go.Proofs.Ytjedkgogjehigaa
end
