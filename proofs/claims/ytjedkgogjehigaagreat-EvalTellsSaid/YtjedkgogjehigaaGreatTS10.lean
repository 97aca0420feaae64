/-
  Part 10 of what the proof rests on.
-/
import Derived.Test.YtjedkgogjehigaaGreatTS09
import Derived.Test.YtjedkgogjehigaaGreatTS08
import Derived.Test.YtjedkgogjehigaaGreatTS05
section
set_option linter.unusedVariables false
set_option linter.unusedSimpArgs false
set_option maxHeartbeats 8000000
set_option linter.unusedSectionVars false
namespace Go.Proofs.YtjedkgogjehigaaGreat
open Lf Go
attribute [local irreducible] PureOp EffOp Ev RG W Then InBlock Lf.Fin nth App InitE Pick SubE EvL EvD EvP EvR ResL Lf.Lex SubR SubBR EvC FinO FinM ResM ResD FinS val pw digs trimL
theorem rright_ok (s : Int) (l : List Int) (hl : l.length ≤ 9223372036854775807) : ACalls Tryz.prog 87 [aB s l] (.pv (cB (rightB s l))) := by
  refine ACalls.of_W (qs := [cB (rightB s l)]) [2] 60 Tryz.func87 (by kernel_rfl) rfl rfl rfl fun G => ?_
  refine W.initA (hw := ?_)
  repeat' (first | ((first | apply U_ | (apply Ug_; exact rfl; exact rfl) | (apply Ugq_; exact rfl; exact rfl)); (first | exact QX.B TYok | exact QX.Len TYok | exact QX.Idx TYok); exact rfl) | refine SX.Box TYok (h := ?_) | refine SC ?_ | (apply S_isnil TYok; exact rfl; exact rfl; exact rfl; exact Ev.auto; intro bn hnil) | refine SG ?_ | (refine W.condA (ht := fun hb => ?_) (hf := fun hb => ?_) <;> (try simp at hb) <;> (try (exfalso; omega))))
  apply W.loopP (σ := Nat) 60 [1] (fun k => k ≤ l.length ∧ l.all digB = (l.drop k).all digB) (fun k => [(3, vI k)]) (fun _ => [(1, ⟨38, 2, [[.int .i64 s, .sl (l.map Lf.encI)]]⟩)]) (fun k => l.length - k) (0)
  case hp => repeat (first | exact Pick.nil | apply Pick.cons rfl)
  case h0 =>
    refine ⟨by simp, ?_⟩
    exact Le.auto
  case round =>
    rintro k ⟨g1, g2⟩
    apply W.norm (by repeat (first | exact App.nil | apply App.cons))
    by_cases hk : k < l.length
    · have e : l.all digB = (digB (nth l k) && (l.drop (k + 1)).all digB) := by rw [g2, drop_nth hk, List.all_cons]
      repeat' (first | ((first | apply U_ | (apply Ug_; exact rfl; exact rfl) | (apply Ugq_; exact rfl; exact rfl)); (first | exact QX.B TYok | exact QX.Len TYok | exact QX.Idx TYok); exact rfl) | refine SX.Box TYok (h := ?_) | refine SC ?_ | (apply S_isnil TYok; exact rfl; exact rfl; exact rfl; exact Ev.auto; intro bn hnil) | refine SG ?_ | (refine W.condA (ht := fun hb => ?_) (hf := fun hb => ?_) <;> (try simp at hb) <;> (try (exfalso; omega))))
      · have e2 : rightB s l = false := by
          rw [rightB, e, show digB (nth l k) = false by
            simp only [digB, Bool.and_eq_false_iff, decide_eq_false_iff_not]; omega]; rfl
        rw [e2]
        exact Fin.ret ResL.auto
      · refine ⟨k + 1, ⟨by omega, ?_⟩, ?_, by omega⟩
        · rw [e, show digB (nth l k) = true by
            simp only [digB, Bool.and_eq_true, decide_eq_true_iff]; omega]; rfl
        · exact Le.auto
    · obtain rfl : k = l.length := by omega
      have e : l.all digB = true := by rw [g2, List.drop_length]; rfl
      by_cases h0 : l.length = 0
      · have e2 : rightB s l = decide (s = 0) := by rw [rightB, e, if_pos h0]; rfl
        have h1 : (l.length : Int) = 0 := by omega
        have hnil := List.length_eq_zero_iff.1 h0
        by_cases hs : s = 0
        · subst hs
          rw [show rightB 0 l = true from e2]
          repeat' (first | ((first | apply U_ | (apply Ug_; exact rfl; exact rfl) | (apply Ugq_; exact rfl; exact rfl)); (first | exact QX.B TYok | exact QX.Len TYok | exact QX.Idx TYok | (apply Q_indexd TYok; exact Ev.auto; exact Ev.auto; exact rfl; exact rfl; exact rfl; (intro hg; exact getRowI (absurd h1 (of_decide_eq_false hg))); exact rfl)); exact rfl) | refine SX.Box TYok (h := ?_) | refine SC ?_ | (apply S_isnil TYok; exact rfl; exact rfl; exact rfl; exact Ev.auto; intro bn hnil) | refine SG ?_ | (refine W.condA (ht := fun hb => ?_) (hf := fun hb => ?_) <;> (try simp at hb) <;> (try (exfalso; omega))))
          · exfalso
            rcases hb with h | h
            · omega
            · exact h hnil
          · rw [show (decide ((l.length : Int) = 0) || !decide (nth l ((l.length : Int) - 1).toNat = 0)) = true by rw [decide_eq_true h1]; rfl]
            exact Fin.ret ResL.auto
        · rw [e2, decide_eq_false hs]
          repeat' (first | ((first | apply U_ | (apply Ug_; exact rfl; exact rfl) | (apply Ugq_; exact rfl; exact rfl)); (first | exact QX.B TYok | exact QX.Len TYok | exact QX.Idx TYok | (apply Q_indexd TYok; exact Ev.auto; exact Ev.auto; exact rfl; exact rfl; exact rfl; (intro hg; exact getRowI (absurd h1 (of_decide_eq_false hg))); exact rfl)); exact rfl) | refine SX.Box TYok (h := ?_) | refine SC ?_ | (apply S_isnil TYok; exact rfl; exact rfl; exact rfl; exact Ev.auto; intro bn hnil) | refine SG ?_ | (refine W.condA (ht := fun hb => ?_) (hf := fun hb => ?_) <;> (try simp at hb) <;> (try (exfalso; omega))))
          · exact Fin.ret ResL.auto
          · exact absurd (hb.2.1 hnil) hs
      · have e2 : rightB s l = ((decide (s = 1) || decide (s = -1)) && decide ((l.length : Int) ≤ 60) && !decide (nth l ((l.length : Int) - 1).toNat = 0)) := by
          rw [rightB, e, if_neg h0, show ((l.length : Int) - 1).toNat = l.length - 1 by omega, show decide (l.length ≤ 60) = decide ((l.length : Int) ≤ 60) from decide_eq_decide.2 (by omega)]; rfl
        have hnil : ¬ l = [] := fun h => h0 (by rw [h]; rfl)
        repeat' (first | ((first | apply U_ | (apply Ug_; exact rfl; exact rfl) | (apply Ugq_; exact rfl; exact rfl)); (first | exact QX.B TYok | exact QX.Len TYok | exact QX.Idx TYok); exact rfl) | refine SX.Box TYok (h := ?_) | refine SC ?_ | (apply S_isnil TYok; exact rfl; exact rfl; exact rfl; exact Ev.auto; intro bn hnil) | refine SG ?_ | (refine W.condA (ht := fun hb => ?_) (hf := fun hb => ?_) <;> (try simp at hb) <;> (try (exfalso; omega))))
        · have e3 : rightB s l = false := by
            simp only [hnil, false_iff, Classical.not_not] at hb
            rw [e2, Bool.and_eq_false_iff, Bool.and_eq_false_iff]
            by_cases s1 : s = 1 ∨ s = -1
            · exact .inl (.inr (decide_eq_false (by omega)))
            · exact .inl (.inl (by rw [Bool.or_eq_false_iff]; exact ⟨decide_eq_false (by omega), decide_eq_false (by omega)⟩))
          rw [e3]
          exact Fin.ret ResL.auto
        · simp only [hnil, false_iff] at hb
          have e3 : rightB s l = (decide ((l.length : Int) = 0) || !decide (nth l ((l.length : Int) - 1).toNat = 0)) := by
            rw [e2, show decide ((l.length : Int) = 0) = false from decide_eq_false (by omega), show (decide (s = 1) || decide (s = -1)) = true by
              rw [Bool.or_eq_true, decide_eq_true_iff, decide_eq_true_iff]; omega, decide_eq_true hb.1.2]; rfl
          rw [e3]
          exact Fin.ret ResL.auto
theorem rmade_ok (s : Int) (l : List Int) (dl : Dig l) (hl : l.length ≤ 1000000) (z : Int) (hs : s = 1 ∨ s = -1 ∨ val l = 0) (hz : z = s * val l) : ACalls Tryz.prog 91 [cI s, slI l] (.pv (zB z)) := by
  obtain ⟨e1, e2⟩ := num_of (val_lo dl) hs hz
  have h1 := rtrim_ok l (by omega)
  rw [trim_digs dl] at h1
  rw [show zB z = aB (if val l = 0 then 0 else s) (digs (val l)) by rw [zB, e1, e2]]
  have h3 : (digs (val l)).length = 0 ↔ val l = 0 := by rw [List.length_eq_zero_iff, digs_nil (val_lo dl)]
  have h4 : (digs (val l)).length ≤ l.length := by rw [← trim_digs dl]; exact trimL_len l
  generalize digs (val l) = D at *
  refine ACalls.of_M TYok (qs := [aB (if val l = 0 then 0 else s) D]) [.cell 4 38] 15 Tryz.func91 (by kernel_rfl) rfl rfl rfl fun G => ?_
  refine W.initA (hw := ?_)
  repeat' (first | ((first | apply U_); (first | exact QX.B TYok | exact QX.Len TYok | exact QX.Build TYok | exact QCd (h1)); exact rfl) | refine SX.Alloc TYok (h := ?_) | refine SX.Store TYok (h := ?_) | refine SC ?_ | (apply S_isnil TYok; exact rfl; exact rfl; exact rfl; exact Ev.auto; intro bn hnil) | (refine W.condA (ht := fun hb => ?_) (hf := fun hb => ?_) <;> (try simp at hb) <;> (try (exfalso; omega))))
  · rw [hb, if_pos (h3.1 (by rw [hb]; rfl))]
    exact FinM.ret (ResM.cell rfl rfl rfl rfl zeroSub ResM.nil)
  · rw [if_neg (fun h => hb (List.length_eq_zero_iff.1 (h3.2 h)))]
    exact FinM.ret ResM.auto
theorem rkept_ok (z : Int) (hl : (digs (mag z)).length ≤ 1000000) : ACalls Tryz.prog 137 [zB z] (.tup [zB (fullZ z), cI (fullE z)]) := by
  have h1 : (digs (mag z)).length ≤ 60 ↔ mag z < pw 60 := digs_len (mag_nn z)
  by_cases h : mag z < pw 60
  · rw [fullZ, fullE, if_pos h, if_pos h]
    have h2 := h1.2 h
    refine ACalls.of_M TYok (qs := [zB z, cI 0]) [.cell 2 38, .tmp 3] 10 Tryz.func137 (by kernel_rfl) rfl rfl rfl fun G => ?_
    refine W.initA (hw := ?_)
    repeat' (first | ((first | apply U_); (first | exact QX.B TYok | exact QX.Len TYok | exact QX.Build TYok); exact rfl) | refine SX.Alloc TYok (h := ?_) | refine SX.Store TYok (h := ?_) | refine SX.Box TYok (h := ?_) | refine SC ?_ | (refine W.condA (ht := fun hb => ?_) (hf := fun hb => ?_) <;> (try simp at hb) <;> (try (exfalso; omega))))
    exact FinM.ret ResM.auto
  · rw [fullZ, fullE, if_neg h, if_neg h]
    have h2 : ¬ (digs (mag z)).length ≤ 60 := fun q => h (h1.1 q)
    refine ACalls.of_M TYok (qs := [zB 0, cI 6]) [.cell 2 38, .tmp 3] 10 Tryz.func137 (by kernel_rfl) rfl rfl rfl fun G => ?_
    refine W.initA (hw := ?_)
    repeat' (first | ((first | apply U_); (first | exact QX.B TYok | exact QX.Len TYok | exact QX.Build TYok); exact rfl) | refine SX.Alloc TYok (h := ?_) | refine SX.Store TYok (h := ?_) | refine SX.Box TYok (h := ?_) | refine SC ?_ | (refine W.condA (ht := fun hb => ?_) (hf := fun hb => ?_) <;> (try simp at hb) <;> (try (exfalso; omega))))
    exact FinM.ret (ResM.cell rfl rfl rfl rfl zeroSubZ (ResM.tmp rfl rfl PSub.rfl' ResM.nil))
theorem rright_yes {x : Int} (h : okZ x) : ACalls Tryz.prog 87 [zB x] (.pv (cB true)) := by
  rw [← num_right h]; exact rright_ok _ _ (by have := num_len h; omega)
theorem rneg_ok (x : Int) (hx : okZ x) : ACalls Tryz.prog 88 [zB x] (.pv (zB (-x))) := by
  have h1 := rright_yes hx
  have h2 := num_len hx
  have h4 := rmade_ok (-(sgn x)) (digs (mag x)) (digs_norm _).dig (by omega) (-x) (by have := sgn_cases x; rw [val_mag]; omega) (by rw [val_mag, Int.neg_mul, sgn_mag])
  have hc := sgn_cases x
  refine ACalls.of_M TYok (qs := [zB (-x)]) [.cell 2 38] 13 Tryz.func88 (by kernel_rfl) rfl rfl rfl fun G => ?_
  refine W.initA (hw := ?_)
  repeat' (first | ((first | apply U_); (first | exact QX.B TYok | exact QX.Build TYok | exact QCl (h1) | exact QCd (h4)); exact rfl) | refine SX.Alloc TYok (h := ?_) | refine SX.Store TYok (h := ?_) | refine SX.Box TYok (h := ?_) | refine SC ?_ | (refine W.condA (ht := fun hb => ?_) (hf := fun hb => ?_) <;> (try simp at hb) <;> (try (exfalso; omega))))
  exact FinM.ret ResM.auto
theorem rmulZ_ok (x y : Int) (hx : okZ x) (hy : okZ y) : ACalls Tryz.prog 107 [zB x, zB y] (.tup [zB (fullZ (x * y)), cI (fullE (x * y))]) := by
  have h1 := rright_yes hx
  have h2 := rright_yes hy
  have l1 := num_len hx
  have l2 := num_len hy
  have h3 := rtimes_ok (digs (mag x)) (digs (mag y)) (digs_norm _).dig (digs_norm _).dig (by omega) (by omega)
  rw [val_mag, val_mag] at h3
  have hs := mul_sgn x y
  have m0 : 0 ≤ mag x * mag y := Int.mul_nonneg (mag_nn x) (mag_nn y)
  have m1 : mag x * mag y < pw 120 := by
    have a1 : mag x * mag y ≤ mag x * pw 60 := Int.mul_le_mul_of_nonneg_left (by have := hy; unfold okZ at this; omega) (mag_nn x)
    have a2 : mag x * pw 60 < pw 60 * pw 60 := Int.mul_lt_mul_of_pos_right hx (pw_pos 60)
    have a3 : pw 120 = pw 60 * pw 60 := pw_add 60 60
    omega
  have l3 : (digs (mag x * mag y)).length ≤ 120 := (digs_len m0).2 m1
  have hsm : sgn x * sgn y = 1 ∨ sgn x * sgn y = -1 ∨ mag x * mag y = 0 := by
    have c1 := sgn_cases x
    have c2 := sgn_cases y
    rcases c1 with h | h | h <;> rcases c2 with h' | h' | h' <;> rw [h.1, h'.1] <;> simp [h.2.2, h'.2.2]
  have hz : x * y = sgn x * sgn y * (mag x * mag y) := by
    have e1 := sgn_mag x
    have e2 := sgn_mag y
    generalize sgn x = s1 at *
    generalize sgn y = s2 at *
    generalize mag x = p1 at *
    generalize mag y = p2 at *
    subst e1; subst e2; grind
  have h4 := rmade_ok (sgn x * sgn y) (digs (mag x * mag y)) (digs_norm _).dig (by omega) (x * y) (by rw [val_digs m0]; exact hsm) (by rw [val_digs m0]; exact hz)
  obtain ⟨e1, e2⟩ := num_of m0 hsm hz
  have h5 := rkept_ok (x * y) (by rw [e1]; omega)
  generalize x * y = z at *
  refine ACalls.of_M TYok (qs := [zB (fullZ z), cI (fullE z)]) [.cell 4 38, .tmp 5] 29 Tryz.func107 (by kernel_rfl) rfl rfl rfl fun G => ?_
  refine W.initA (hw := ?_)
  repeat' (first | ((first | apply U_ | (apply Ug_; exact rfl; exact rfl) | (apply Ugq_; exact rfl; exact rfl) | apply Lex.u | (apply Lex.g; exact rfl; exact rfl) | (apply Lex.gq; exact rfl; exact rfl)); (first | exact QX.B TYok | exact QX.Ext TYok | exact QX.Build TYok | exact QCl (h1) | exact QCl (h2) | exact QCd (h3) | exact QCd (h4) | exact QCd (h5)); exact rfl) | refine SX.Alloc TYok (h := ?_) | refine SX.Store TYok (h := ?_) | refine SX.Box TYok (h := ?_) | refine SC ?_ | refine SG ?_ | (apply W.draw2 (id := 3) [0, 1, 0, 4, 15, 0, 32, 0, 128, 480, 1023, 2047, 4095, 4095, 16383, 32767] [[2], [15], [3], [17], [16, 18], [2], [20], [3], [22], [21, 23], [19, 24], [25], [26], [26]] 14 [(15, 4), (16, 32768), (17, 8), (18, 131072), (19, 327680), (20, 4), (21, 1048576), (22, 8), (23, 4194304), (24, 10485760), (25, 17301504), (26, 33554432), (27, 67108864), (28, 67108864)] mixed (by kernel_rfl) rfl rfl) | (refine W.condA (ht := fun hb => ?_) (hf := fun hb => ?_) <;> (try simp at hb) <;> (try (exfalso; omega))))
  exact FinM.ret ResM.auto
theorem Q_orS {P : Program} {G : Ghost} {n0 : Nat} {env : List (Nat × (Prop × AV))} {bl : List (Nat × Blk)} {p : Prop} {dst : Option Nat} {ty : TypeId} {pos : String} {after : Array Edge} {gd : Option (Nat × Bool)} {xt yt : Nat} {x y : Operand} {m n r : Int} (hr : bits .or .i64 m n = r) (hx : Ev (St.mk n0 env bl) p x (.pv (.one (.int .i64 m)))) (hy : Ev (St.mk n0 env bl) p y (.pv (.one (.int .i64 n)))) :
    PureOp P G (St.mk n0 env bl) ⟨dst, .binOp .or xt x y yt, ty, pos, after, gd⟩ p (.pv (.one (.int .i64 r))) := P_bin (o := ⟨dst, .binOp .or xt x y yt, ty, pos, after, gd⟩) rfl hx hy (by simp only [binI]; rw [hr])
theorem raddZ_ok (x y : Int) (hx : okZ x) (hy : okZ y) : ACalls Tryz.prog 108 [zB x, zB y] (.tup [zB (fullZ (x + y)), cI (fullE (x + y))]) := by
  have h1 := rright_yes hx
  have h2 := rright_yes hy
  have l1 := num_len hx
  have l2 := num_len hy
  have c1 := sgn_cases x
  have c2 := sgn_cases y
  have mx := mag_nn x
  have my := mag_nn y
  have hx' := hx
  have hy' := hy
  unfold okZ at hx' hy'
  have hz61 : mag (x + y) < pw 61 := by
    have := sgn_cases (x + y)
    have : pw 61 = 1048576 * pw 60 := pw_succ 60
    omega
  have l5 : (digs (mag (x + y))).length ≤ 61 := (digs_len (mag_nn _)).2 hz61
  have h5 := rkept_ok (x + y) (by omega)
  by_cases hc : sgn x = 0 ∨ sgn y = 0 ∨ sgn x = sgn y
  · have h3 := rplus_ok (digs (mag x)) (digs (mag y)) (digs_norm _).dig (digs_norm _).dig (by omega) (by omega)
    rw [val_mag, val_mag] at h3
    have e0 : x + y = (if sgn x = 0 then sgn y else sgn x) * (mag x + mag y) ∧ ((if sgn x = 0 then sgn y else sgn x) = 1 ∨ (if sgn x = 0 then sgn y else sgn x) = -1 ∨ mag x + mag y = 0) := by
      rcases c1 with h | h | h <;> rcases c2 with h' | h' | h' <;> rw [h.1, h'.1] at hc ⊢ <;> rw [h.2.2, h'.2.2] <;> simp at hc ⊢ <;> omega
    have hor : bits .or .i64 (sgn x) (sgn y) = (if sgn x = 0 then sgn y else sgn x) := by
      rcases c1 with h | h | h <;> rcases c2 with h' | h' | h' <;> rw [h.1, h'.1] at hc ⊢ <;> first | rfl | decide | (exfalso; omega)
    have em : mag (x + y) = mag x + mag y := (num_of (by omega) e0.2 e0.1).1
    have h4 := rmade_ok (if sgn x = 0 then sgn y else sgn x) (digs (mag x + mag y)) (digs_norm _).dig (by rw [← em]; omega) (x + y) (by rw [val_digs (by omega)]; exact e0.2) (by rw [val_digs (by omega)]; exact e0.1)
    generalize (if sgn x = 0 then sgn y else sgn x) = s at *
    generalize x + y = z at *
    refine ACalls.of_M TYok (qs := [zB (fullZ z), cI (fullE z)]) [.cell 4 38, .tmp 5] 71 Tryz.func108 (by kernel_rfl) rfl rfl rfl fun G => ?_
    refine W.initA (hw := ?_)
    repeat' (first | ((first | apply U_ | (apply Ug_; exact rfl; exact rfl) | (apply Ugq_; exact rfl; exact rfl) | apply Lex.u | (apply Lex.g; exact rfl; exact rfl) | (apply Lex.gq; exact rfl; exact rfl)); (first | (apply Q_orS hor; exact Ev.auto; exact Ev.auto) | exact QX.B TYok | exact QX.Ext TYok | exact QX.Build TYok | exact QCl (h1) | exact QCl (h2) | exact QCd (h3) | exact QCd (h4) | exact QCd (h5)); exact rfl) | refine SX.Alloc TYok (h := ?_) | refine SX.Store TYok (h := ?_) | refine SX.Box TYok (h := ?_) | refine SC ?_ | (apply S_isnil TYok; exact rfl; exact rfl; exact rfl; exact Ev.auto; intro bn hnil) | refine SG ?_ | (apply W.draw2 (id := 4) [0, 1, 0, 4, 15, 0, 32, 0, 128, 480, 1023, 2047, 4095, 4095, 16383, 32767] [[2], [30], [3], [32], [31, 33], [2], [35], [3], [37], [36, 38], [34, 39], [40], [41], [41]] 14 [(30, 4), (31, 1073741824), (32, 8), (33, 4294967296), (34, 10737418240), (35, 4), (36, 34359738368), (37, 8), (38, 137438953472), (39, 343597383680), (40, 566935683072), (41, 1099511627776), (42, 2199023255552), (43, 2199023255552)] mixed (by kernel_rfl) rfl rfl) | (apply W.draw2 (id := 6) [0, 1, 0, 4, 0, 16, 60, 127, 255, 511, 511, 2047, 4095] [[3], [49], [3], [51], [2], [53], [52, 54], [50, 55], [56], [57], [57]] 11 [(49, 8), (50, 562949953421312), (51, 8), (52, 2251799813685248), (53, 4), (54, 9007199254740992), (55, 22517998136852480), (56, 37154696925806592), (57, 72057594037927936), (58, 144115188075855872), (59, 144115188075855872)] mixed (by kernel_rfl) rfl rfl) | (apply W.draw2 (id := 7) [0, 1, 0, 4, 0, 16, 60, 127, 255, 511, 511, 2047, 4095] [[2], [60], [2], [62], [3], [64], [63, 65], [61, 66], [67], [68], [68]] 11 [(60, 4), (61, 1152921504606846976), (62, 4), (63, 4611686018427387904), (64, 8), (65, 18446744073709551616), (66, 46116860184273879040), (67, 76092819304051900416), (68, 147573952589676412928), (69, 295147905179352825856), (70, 295147905179352825856)] mixed (by kernel_rfl) rfl rfl) | (refine W.condA (ht := fun hb => ?_) (hf := fun hb => ?_) <;> (try simp at hb) <;> (try (exfalso; omega))))
    all_goals first | exact FinM.ret ResM.auto | (exfalso; omega)
  · have h6 := rless_ok (digs (mag x)) (digs (mag y)) (digs_norm _).dig (digs_norm _).dig (by omega) (by omega)
    rw [val_mag, val_mag] at h6
    by_cases hlt : mag x < mag y
    · have h3 := rminus_ok (digs (mag y)) (digs (mag x)) (digs_norm _).dig (digs_norm _).dig (by omega) (digs_mono mx (by omega)) (by rw [val_mag, val_mag]; omega)
      rw [val_mag, val_mag] at h3
      have e0 : x + y = sgn y * (mag y - mag x) ∧ (sgn y = 1 ∨ sgn y = -1 ∨ mag y - mag x = 0) := by
        rcases c1 with h | h | h <;> rcases c2 with h' | h' | h' <;> rw [h.1, h'.1] at hc <;> rw [h'.1, h.2.2, h'.2.2] <;> simp at hc ⊢ <;> omega
      have em : mag (x + y) = mag y - mag x := (num_of (by omega) e0.2 e0.1).1
      have h4 := rmade_ok (sgn y) (digs (mag y - mag x)) (digs_norm _).dig (by rw [← em]; omega) (x + y) (by rw [val_digs (by omega)]; exact e0.2) (by rw [val_digs (by omega)]; exact e0.1)
      rw [decide_eq_true hlt] at h6
      generalize x + y = z at *
      refine ACalls.of_M TYok (qs := [zB (fullZ z), cI (fullE z)]) [.cell 4 38, .tmp 5] 71 Tryz.func108 (by kernel_rfl) rfl rfl rfl fun G => ?_
      refine W.initA (hw := ?_)
      repeat' (first | ((first | apply U_ | (apply Ug_; exact rfl; exact rfl) | (apply Ugq_; exact rfl; exact rfl) | apply Lex.u | (apply Lex.g; exact rfl; exact rfl) | (apply Lex.gq; exact rfl; exact rfl)); (first | exact QX.B TYok | exact QX.Ext TYok | exact QX.Build TYok | exact QCl (h1) | exact QCl (h2) | exact QCd (h3) | exact QCd (h4) | exact QCd (h5) | exact QCl (h6)); exact rfl) | refine SX.Alloc TYok (h := ?_) | refine SX.Store TYok (h := ?_) | refine SX.Box TYok (h := ?_) | refine SC ?_ | (apply S_isnil TYok; exact rfl; exact rfl; exact rfl; exact Ev.auto; intro bn hnil) | refine SG ?_ | (apply W.draw2 (id := 4) [0, 1, 0, 4, 15, 0, 32, 0, 128, 480, 1023, 2047, 4095, 4095, 16383, 32767] [[2], [30], [3], [32], [31, 33], [2], [35], [3], [37], [36, 38], [34, 39], [40], [41], [41]] 14 [(30, 4), (31, 1073741824), (32, 8), (33, 4294967296), (34, 10737418240), (35, 4), (36, 34359738368), (37, 8), (38, 137438953472), (39, 343597383680), (40, 566935683072), (41, 1099511627776), (42, 2199023255552), (43, 2199023255552)] mixed (by kernel_rfl) rfl rfl) | (apply W.draw2 (id := 6) [0, 1, 0, 4, 0, 16, 60, 127, 255, 511, 511, 2047, 4095] [[3], [49], [3], [51], [2], [53], [52, 54], [50, 55], [56], [57], [57]] 11 [(49, 8), (50, 562949953421312), (51, 8), (52, 2251799813685248), (53, 4), (54, 9007199254740992), (55, 22517998136852480), (56, 37154696925806592), (57, 72057594037927936), (58, 144115188075855872), (59, 144115188075855872)] mixed (by kernel_rfl) rfl rfl) | (apply W.draw2 (id := 7) [0, 1, 0, 4, 0, 16, 60, 127, 255, 511, 511, 2047, 4095] [[2], [60], [2], [62], [3], [64], [63, 65], [61, 66], [67], [68], [68]] 11 [(60, 4), (61, 1152921504606846976), (62, 4), (63, 4611686018427387904), (64, 8), (65, 18446744073709551616), (66, 46116860184273879040), (67, 76092819304051900416), (68, 147573952589676412928), (69, 295147905179352825856), (70, 295147905179352825856)] mixed (by kernel_rfl) rfl rfl) | (refine W.condA (ht := fun hb => ?_) (hf := fun hb => ?_) <;> (try simp at hb) <;> (try (exfalso; omega))))
      all_goals first | exact FinM.ret ResM.auto | (exfalso; omega)
    · have h3 := rminus_ok (digs (mag x)) (digs (mag y)) (digs_norm _).dig (digs_norm _).dig (by omega) (digs_mono my (by omega)) (by rw [val_mag, val_mag]; omega)
      rw [val_mag, val_mag] at h3
      have e0 : x + y = sgn x * (mag x - mag y) ∧ (sgn x = 1 ∨ sgn x = -1 ∨ mag x - mag y = 0) := by
        rcases c1 with h | h | h <;> rcases c2 with h' | h' | h' <;> rw [h.1, h'.1] at hc <;> rw [h.1, h.2.2, h'.2.2] <;> simp at hc ⊢ <;> omega
      have em : mag (x + y) = mag x - mag y := (num_of (by omega) e0.2 e0.1).1
      have h4 := rmade_ok (sgn x) (digs (mag x - mag y)) (digs_norm _).dig (by rw [← em]; omega) (x + y) (by rw [val_digs (by omega)]; exact e0.2) (by rw [val_digs (by omega)]; exact e0.1)
      rw [decide_eq_false hlt] at h6
      generalize x + y = z at *
      refine ACalls.of_M TYok (qs := [zB (fullZ z), cI (fullE z)]) [.cell 4 38, .tmp 5] 71 Tryz.func108 (by kernel_rfl) rfl rfl rfl fun G => ?_
      refine W.initA (hw := ?_)
      repeat' (first | ((first | apply U_ | (apply Ug_; exact rfl; exact rfl) | (apply Ugq_; exact rfl; exact rfl) | apply Lex.u | (apply Lex.g; exact rfl; exact rfl) | (apply Lex.gq; exact rfl; exact rfl)); (first | exact QX.B TYok | exact QX.Ext TYok | exact QX.Build TYok | exact QCl (h1) | exact QCl (h2) | exact QCd (h3) | exact QCd (h4) | exact QCd (h5) | exact QCl (h6)); exact rfl) | refine SX.Alloc TYok (h := ?_) | refine SX.Store TYok (h := ?_) | refine SX.Box TYok (h := ?_) | refine SC ?_ | (apply S_isnil TYok; exact rfl; exact rfl; exact rfl; exact Ev.auto; intro bn hnil) | refine SG ?_ | (apply W.draw2 (id := 4) [0, 1, 0, 4, 15, 0, 32, 0, 128, 480, 1023, 2047, 4095, 4095, 16383, 32767] [[2], [30], [3], [32], [31, 33], [2], [35], [3], [37], [36, 38], [34, 39], [40], [41], [41]] 14 [(30, 4), (31, 1073741824), (32, 8), (33, 4294967296), (34, 10737418240), (35, 4), (36, 34359738368), (37, 8), (38, 137438953472), (39, 343597383680), (40, 566935683072), (41, 1099511627776), (42, 2199023255552), (43, 2199023255552)] mixed (by kernel_rfl) rfl rfl) | (apply W.draw2 (id := 6) [0, 1, 0, 4, 0, 16, 60, 127, 255, 511, 511, 2047, 4095] [[3], [49], [3], [51], [2], [53], [52, 54], [50, 55], [56], [57], [57]] 11 [(49, 8), (50, 562949953421312), (51, 8), (52, 2251799813685248), (53, 4), (54, 9007199254740992), (55, 22517998136852480), (56, 37154696925806592), (57, 72057594037927936), (58, 144115188075855872), (59, 144115188075855872)] mixed (by kernel_rfl) rfl rfl) | (apply W.draw2 (id := 7) [0, 1, 0, 4, 0, 16, 60, 127, 255, 511, 511, 2047, 4095] [[2], [60], [2], [62], [3], [64], [63, 65], [61, 66], [67], [68], [68]] 11 [(60, 4), (61, 1152921504606846976), (62, 4), (63, 4611686018427387904), (64, 8), (65, 18446744073709551616), (66, 46116860184273879040), (67, 76092819304051900416), (68, 147573952589676412928), (69, 295147905179352825856), (70, 295147905179352825856)] mixed (by kernel_rfl) rfl rfl) | (refine W.condA (ht := fun hb => ?_) (hf := fun hb => ?_) <;> (try simp at hb) <;> (try (exfalso; omega))))
      all_goals first | exact FinM.ret ResM.auto | (exfalso; omega)
attribute [local irreducible] sgn mag fullZ fullE in
theorem rsubZ_ok (x y : Int) (hx : okZ x) (hy : okZ y) : ACalls Tryz.prog 110 [zB x, zB y] (.tup [zB (fullZ (x - y)), cI (fullE (x - y))]) := by
  have h2 := rright_yes hy
  have h3 := rneg_ok y hy
  have h4 := raddZ_ok x (-y) hx (okZ_neg hy)
  rw [show x + -y = x - y by omega] at h4
  generalize x - y = z at *
  refine ACalls.of_M TYok (qs := [zB (fullZ z), cI (fullE z)]) [.cell 4 38, .tmp 5] 21 Tryz.func110 (by kernel_rfl) rfl rfl rfl fun G => ?_
  refine W.initA (hw := ?_)
  repeat' (first | (refine W.purgeR [(0, [0, 1]), (1, [2, 3, 4]), (2, [4]), (3, [2, 3, 4]), (4, [4, 6, 7])] rfl (by repeat (first | exact PN.nil | apply PN.po rfl | (apply PN.pa; exact rfl; (repeat (first | (apply NR.cons; exact rfl) | exact NR.nil rfl))) | apply PN.a rfl | apply PN.s rfl | apply PN.u rfl | apply PN.m rfl | apply PN.k rfl | apply PN.i rfl | apply PN.skip)) (by repeat (first | exact PB.nil | (apply PB.one; exact rfl; (focus (first | (dsimp only; done) | (dsimp only; exact rfl) | exact rfl)); (focus (first | (dsimp only; done) | (dsimp only; exact rfl) | exact rfl)); exact rfl; (repeat (first | (apply NR.cons; exact rfl) | exact NR.nil rfl)))  | apply PB.cons rfl)) ?_) | ((first | apply U_); (first | exact QX.B TYok | exact QX.Ext TYok | exact QX.Build TYok | exact QCl (h2) | exact QCd (h3) | exact QCd (h4)); exact rfl) | refine SX.Alloc TYok (h := ?_) | refine SX.Store TYok (h := ?_) | refine SX.Box TYok (h := ?_) | refine SC ?_ | apply LexS.nil | (apply LexS.f; exact rfl; (first | (apply FreshV.alloc TYok; exact rfl; exact rfl; exact rfl; exact rfl) | (apply FreshV.lit TYok; (repeat (first | exact EvR.nil | apply EvR.cons Ev.auto)); exact rfl; exact rfl; exact rfl; exact rfl; exact rfl; exact rfl; exact rfl; exact rfl; exact rfl) | (apply FreshV.box; exact Ev.auto; exact rfl; exact rfl; exact rfl)); exact rfl; exact rfl; exact rfl) | (apply LexS.s; exact rfl; exact rfl; (apply StoreV.mk TYok; exact Ev.auto; exact Ev.auto; exact rfl; exact rfl; exact rfl; exact rfl; exact rfl)) | ((first | apply LexS.u | (apply LexS.g; exact rfl; exact rfl) | (apply LexS.gq; exact rfl; exact rfl)); (repeat (first | (apply NB.cons; exact rfl) | exact NB.nil rfl)); (first | exact QX.B TYok | exact QX.Ext TYok | exact QX.Build TYok | exact QCl (h2) | exact QCd (h3) | exact QCd (h4)); exact rfl; exact rfl; exact rfl) | (refine W.drawS (id := 3) [0, 0, 2, 7, 15, 31, 31, 0, 191, 511] [[2], [3], [14], [13, 15], [16], [12], [12], [], [6, 17], [18]] [(8, (6, ?_)), (7, (6, ?_))] [(8, 6), (7, 6)] mixed (by kernel_rfl) rfl ?_; rotate_left 2) | (refine W.condA (ht := fun hb => ?_) (hf := fun hb => ?_) <;> (try simp at hb) <;> (try (exfalso; omega))))
  exact FinM.ret ResM.auto
end Go.Proofs.YtjedkgogjehigaaGreat
end
section
set_option linter.unusedVariables false
set_option linter.unusedSimpArgs false
set_option maxHeartbeats 8000000
set_option linter.unusedSectionVars false
namespace Go.Proofs.YtjedkgogjehigaaGreat
open Lf Go
attribute [local irreducible] PureOp EffOp Ev RG W Then InBlock Lf.Fin nth App InitE Pick SubE EvL EvD EvP EvR ResL Lf.Lex SubR SubBR EvC FinO FinM ResM ResD FinS val pw digs trimL
theorem rcmpZ_ok (x y : Int) (hx : okZ x) (hy : okZ y) : ACalls Tryz.prog 105 [zB x, zB y] (.pv (cI (cmpI x y))) := by
  have h1 := rright_yes hx
  have h2 := rright_yes hy
  have l1 := num_len hx
  have l2 := num_len hy
  have h3 := rsameZ_ok x y hx hy
  have h4 := rless_ok (digs (mag x)) (digs (mag y)) (digs_norm _).dig (digs_norm _).dig (by omega) (by omega)
  rw [val_mag, val_mag] at h4
  have c1 := sgn_cases x
  have c2 := sgn_cases y
  by_cases hxy : x = y
  · rw [decide_eq_true hxy] at h3
    rw [show cmpI x y = 0 by rw [cmpI, if_neg (by omega), if_neg (by omega)]]
    refine ACalls.of_W (qs := [cI 0]) [4] 37 Tryz.func105 (by kernel_rfl) rfl rfl rfl fun G => ?_
    refine W.initA (hw := ?_)
    repeat' (first | ((first | apply U_ | (apply Ug_; exact rfl; exact rfl) | (apply Ugq_; exact rfl; exact rfl) | apply Lex.u | (apply Lex.g; exact rfl; exact rfl) | (apply Lex.gq; exact rfl; exact rfl)); (first | exact QX.B TYok | exact QCl (h1) | exact QCl (h2) | exact QCl (h3)); exact rfl) | refine SX.Box TYok (h := ?_) | refine SC ?_ | (apply S_isnil TYok; exact rfl; exact rfl; exact rfl; exact Ev.auto; intro bn hnil) | refine SG ?_ | (apply W.draw2 (id := 7) [0, 1, 0, 4, 15, 0, 32, 96, 255] [[2], [28], [3], [30], [29, 31], [2], [33], [34], [32, 35]] 9 [(28, 4), (29, 268435456), (30, 8), (31, 1073741824), (32, 2684354560), (33, 4), (34, 8589934592), (35, 17179869184), (36, 38654705664)] mixed (by kernel_rfl) rfl rfl) | (refine W.condA (ht := fun hb => ?_) (hf := fun hb => ?_) <;> (try simp at hb) <;> (try (exfalso; omega))))
    all_goals first | exact Fin.ret ResL.auto | (exfalso; omega)
  · rw [decide_eq_false hxy] at h3
    by_cases hlt : x < y
    · rw [show cmpI x y = -1 by rw [cmpI, if_pos hlt]]
      have e : sgn x = sgn y → decide (mag x < mag y) = decide (0 < sgn x) := fun h => by
        refine decide_eq_decide.2 ?_
        omega
      generalize decide (mag x < mag y) = d at *
      refine ACalls.of_W (qs := [cI (-1)]) [4] 37 Tryz.func105 (by kernel_rfl) rfl rfl rfl fun G => ?_
      refine W.initA (hw := ?_)
      repeat' (first | ((first | apply U_ | (apply Ug_; exact rfl; exact rfl) | (apply Ugq_; exact rfl; exact rfl) | apply Lex.u | (apply Lex.g; exact rfl; exact rfl) | (apply Lex.gq; exact rfl; exact rfl)); (first | exact QX.B TYok | exact QCl (h1) | exact QCl (h2) | exact QCl (h3) | exact QCl (h4)); exact rfl) | refine SX.Box TYok (h := ?_) | refine SC ?_ | (apply S_isnil TYok; exact rfl; exact rfl; exact rfl; exact Ev.auto; intro bn hnil) | refine SG ?_ | (apply W.draw2 (id := 7) [0, 1, 0, 4, 15, 0, 32, 96, 255] [[2], [28], [3], [30], [29, 31], [2], [33], [34], [32, 35]] 9 [(28, 4), (29, 268435456), (30, 8), (31, 1073741824), (32, 2684354560), (33, 4), (34, 8589934592), (35, 17179869184), (36, 38654705664)] mixed (by kernel_rfl) rfl rfl) | (refine W.condA (ht := fun hb => ?_) (hf := fun hb => ?_) <;> (try simp at hb) <;> (try (exfalso; omega))))
      all_goals first | exact Fin.ret ResL.auto | (exfalso; omega) | (exact absurd (e (by assumption)) hb)
    · rw [show cmpI x y = 1 by rw [cmpI, if_neg hlt, if_pos (by omega)]]
      have e : sgn x = sgn y → ¬ decide (mag x < mag y) = decide (0 < sgn x) := fun h => by
        rw [decide_eq_decide]
        omega
      generalize decide (mag x < mag y) = d at *
      refine ACalls.of_W (qs := [cI 1]) [4] 37 Tryz.func105 (by kernel_rfl) rfl rfl rfl fun G => ?_
      refine W.initA (hw := ?_)
      repeat' (first | ((first | apply U_ | (apply Ug_; exact rfl; exact rfl) | (apply Ugq_; exact rfl; exact rfl) | apply Lex.u | (apply Lex.g; exact rfl; exact rfl) | (apply Lex.gq; exact rfl; exact rfl)); (first | exact QX.B TYok | exact QCl (h1) | exact QCl (h2) | exact QCl (h3) | exact QCl (h4)); exact rfl) | refine SX.Box TYok (h := ?_) | refine SC ?_ | (apply S_isnil TYok; exact rfl; exact rfl; exact rfl; exact Ev.auto; intro bn hnil) | refine SG ?_ | (apply W.draw2 (id := 7) [0, 1, 0, 4, 15, 0, 32, 96, 255] [[2], [28], [3], [30], [29, 31], [2], [33], [34], [32, 35]] 9 [(28, 4), (29, 268435456), (30, 8), (31, 1073741824), (32, 2684354560), (33, 4), (34, 8589934592), (35, 17179869184), (36, 38654705664)] mixed (by kernel_rfl) rfl rfl) | (refine W.condA (ht := fun hb => ?_) (hf := fun hb => ?_) <;> (try simp at hb) <;> (try (exfalso; omega))))
      all_goals first | exact Fin.ret ResL.auto | (exfalso; omega) | (exact absurd hb (e (by assumption)))
theorem rdivZ_ok (x y : Int) (hx : okZ x) (hy : okZ y) (h0 : y ≠ 0) : ACalls Tryz.prog 90 [zB x, zB y] (.tup [zB (quoZ x y), zB (remZ x y), cI 0]) := by
  have h1 := rright_yes hx
  have h2 := rright_yes hy
  have l1 := num_len hx
  have l2 := num_len hy
  have hs := mul_sgn x y
  have c1 := sgn_cases x
  have c2 := sgn_cases y
  have mx := mag_nn x
  have my : 0 < mag y := by omega
  have h3 := rover_ok (digs (mag x)) (digs (mag y)) (digs_norm _).dig (digs_norm _).dig (by omega) (by omega) (by rw [val_mag]; exact my)
  rw [val_mag, val_mag] at h3
  have hq := Int.ediv_nonneg mx (show 0 ≤ mag y by omega)
  have hq2 : mag x / mag y ≤ mag x := Int.ediv_le_self _ mx
  have hr := Int.emod_nonneg (mag x) (show mag y ≠ 0 by omega)
  have hr2 := Int.emod_lt_of_pos (mag x) my
  have hm := Int.emod_add_mul_ediv (mag x) (mag y)
  have lq := digs_mono hq hq2
  have lr := digs_mono hr (show mag x % mag y ≤ mag y by omega)
  generalize mag x / mag y = q at *
  generalize mag x % mag y = r at *
  have hr0 : (digs r).length = 0 ↔ r = 0 := by rw [List.length_eq_zero_iff, digs_nil hr]
  by_cases hc : sgn x * sgn y < 0 ∧ 0 < r
  · have hne : 0 < (digs r).length := by omega
    have hxy : (x < 0 ∧ 0 < y) ∨ (0 < x ∧ y < 0) := by
      rcases c1 with h | h | h <;> rcases c2 with h' | h' | h' <;> rw [h.1, h'.1] at hc <;> first | (exfalso; omega) | omega
    have h4 := rplus_ok (digs q) [1] (digs_norm _).dig (Dig.cons (by omega) Dig.nil) (by omega) (by simp)
    rw [val_digs hq, val_one] at h4
    have h5 := rminus_ok (digs (mag y)) (digs r) (digs_norm _).dig (digs_norm _).dig (by omega) lr (by rw [val_mag, val_digs hr]; omega)
    rw [val_mag, val_digs hr] at h5
    have l6 := digs_mono (show 0 ≤ mag y - r by omega) (show mag y - r ≤ mag y by omega)
    have l7 : (digs (q + 1)).length ≤ 100 := (digs_len (by omega)).2 (by
      have := hx; unfold okZ at this
      have := pw_lt (show 60 < 100 by omega); omega)
    obtain ⟨u1, u2⟩ := quo_uniq (x := x) (q := -(q + 1)) (r := sgn y * (mag y - r)) h0 (by
        rcases hxy with h | h
        · have e1 : mag x = -x := by omega
          have e2 : mag y = y := by omega
          have e3 : sgn y = 1 := by omega
          rw [e3, e2]; rw [e1, e2] at hm; grind
        · have e1 : mag x = x := by omega
          have e2 : mag y = -y := by omega
          have e3 : sgn y = -1 := by omega
          rw [e3, e2]; rw [e1, e2] at hm; grind)
      (fun hp => by rw [show sgn y = 1 by omega]; omega) (fun hp => by rw [show sgn y = -1 by omega]; omega)
    rw [← u1, ← u2]
    have h6 := rmade_ok (-1) (digs (q + 1)) (digs_norm _).dig (by omega) (-(q + 1)) (.inr (.inl rfl)) (by rw [val_digs (by omega)]; omega)
    have h7 := rmade_ok (sgn y) (digs (mag y - r)) (digs_norm _).dig (by omega) (sgn y * (mag y - r)) (by omega) (by rw [val_digs (by omega)])
    generalize sgn y * (mag y - r) = z2 at *
    generalize -(q + 1) = z1 at *
    have hbad : (0 ≤ sgn x * sgn y ∨ digs r = []) → False := fun h => by
      rcases h with h | h
      · omega
      · rw [h] at hne; simp at hne
    refine ACalls.of_M TYok (qs := [zB z1, zB z2, cI 0]) [.cell 4 38, .cell 5 38, .tmp 6] 65 Tryz.func90 (by kernel_rfl) rfl rfl rfl fun G => ?_
    refine W.initA (hw := ?_)
    repeat' (first | ((first | apply U_ | (apply Ug_; exact rfl; exact rfl) | (apply Ugq_; exact rfl; exact rfl) | apply Lex.u | (apply Lex.g; exact rfl; exact rfl) | (apply Lex.gq; exact rfl; exact rfl)); (first | (apply Q_litD TYok; (repeat (first | exact EvR.nil | apply EvR.cons Ev.auto)); exact rfl; exact rfl; exact rfl; exact rfl; exact rfl; exact rfl) | exact QX.B TYok | exact QX.Len TYok | exact QX.Ext TYok | exact QX.Build TYok | exact QCl (h1) | exact QCl (h2) | exact QCd (h3) | exact QCd (h5) | exact QCd (h6) | exact QCd (h7) | exact QCd (h4)); exact rfl) | refine SX.Alloc TYok (h := ?_) | refine SX.Store TYok (h := ?_) | refine SX.Lit TYok (h := ?_) | refine SX.Box TYok (h := ?_) | refine SC ?_ | (apply S_isnil TYok; exact rfl; exact rfl; exact rfl; exact Ev.auto; intro bn hnil) | refine SG ?_ | (apply W.draw2 (id := 7) [0, 1, 0, 4, 15, 0, 63, 0, 128, 0, 1023, 2047, 4095, 8191] [[2], [43], [3], [45], [44, 46], [7], [47, 48], [2], [50], [8], [51, 52]] 11 [(43, 4), (44, 8796093022208), (45, 8), (46, 35184372088832), (47, 87960930222080), (48, 128), (49, 422212465065984), (50, 4), (51, 1125899906842624), (52, 256), (53, 6755399441055744)] mixed (by kernel_rfl) rfl rfl) | (apply W.draw2 (id := 8) [0, 0, 3, 7, 0, 16, 0, 64, 0, 463, 1023, 2047, 4095, 8191] [[7], [], [54, 55], [56], [3], [58], [3], [60], [8], [61, 62], [59, 63]] 11 [(54, 128), (55, 0), (56, 54043195528445952), (57, 72057594037927936), (58, 8), (59, 288230376151711744), (60, 8), (61, 1152921504606846976), (62, 256), (63, 6917529027641081856), (64, 9799832789158199296)] mixed (by kernel_rfl) rfl rfl) | (refine W.condA (ht := fun hb => ?_) (hf := fun hb => ?_) <;> (try simp at hb) <;> (try (exfalso; first | exact hbad hb | omega))))
    exact FinM.ret ResM.auto
  · have hcc : ¬ (sgn x * sgn y < 0 ∧ 0 < (digs r).length) := by omega
    have hxy : (x = 0) ∨ (0 < x ∧ 0 < y) ∨ (x < 0 ∧ y < 0) ∨ r = 0 := by
      by_cases hr' : r = 0
      · exact .inr (.inr (.inr hr'))
      · have hc2 : ¬ sgn x * sgn y < 0 := fun q => hc ⟨q, by omega⟩
        rcases c1 with h | h | h
        · rcases c2 with h' | h' | h'
          · omega
          · omega
          · rw [h.1, h'.1] at hc2; exact absurd (by decide) hc2
        · exact .inl h.2.1
        · rcases c2 with h' | h' | h'
          · rw [h.1, h'.1] at hc2; exact absurd (by decide) hc2
          · omega
          · omega
    have hq0 : x = 0 → q = 0 := fun h => by
      have : mag x = 0 := by omega
      omega
    have hsm : sgn x * sgn y = 1 ∨ sgn x * sgn y = -1 ∨ q = 0 := by
      rcases c1 with h | h | h
      · rcases c2 with h' | h' | h'
        · rw [h.1, h'.1]; exact .inl rfl
        · exact absurd h'.2.1 h0
        · rw [h.1, h'.1]; exact .inr (.inl rfl)
      · exact .inr (.inr (hq0 h.2.1))
      · rcases c2 with h' | h' | h'
        · rw [h.1, h'.1]; exact .inr (.inl rfl)
        · exact absurd h'.2.1 h0
        · rw [h.1, h'.1]; exact .inl rfl
    have hsx : sgn x = 1 ∨ sgn x = -1 ∨ r = 0 := by
      rcases c1 with h | h | h
      · exact .inr (.inl h.1)
      · have e := hq0 h.2.1
        rw [e, Int.mul_zero] at hm
        exact .inr (.inr (by omega))
      · exact .inl h.1
    obtain ⟨u1, u2⟩ := quo_uniq (x := x) (q := sgn x * sgn y * q) (r := sgn x * r) h0 (by
        have e1 := sgn_mag x
        have e2 := sgn_mag y
        have e3 : sgn y * sgn y = 1 := by
          rcases c2 with h | h | h
          · rw [h.1]; rfl
          · exact absurd h.2.1 h0
          · rw [h.1]; rfl
        generalize sgn x = sx at *
        generalize sgn y = sy at *
        generalize mag x = px at *
        generalize mag y = py at *
        subst e1; subst e2
        rw [← hm]
        have e4 : sy * py * (sx * sy * q) = sx * (py * q) * (sy * sy) := by grind
        rw [e4, e3]; grind)
      (fun hp => by
        rcases hxy with h | h | h | h
        · rw [show sgn x = 0 by omega]; omega
        · rw [show sgn x = 1 by omega]; omega
        · omega
        · rw [h, Int.mul_zero]; omega)
      (fun hp => by
        rcases hxy with h | h | h | h
        · rw [show sgn x = 0 by omega]; omega
        · omega
        · rw [show sgn x = -1 by omega]; omega
        · rw [h, Int.mul_zero]; omega)
    rw [← u1, ← u2]
    have h6 := rmade_ok (sgn x * sgn y) (digs q) (digs_norm _).dig (by omega) (sgn x * sgn y * q) (by rw [val_digs hq]; exact hsm) (by rw [val_digs hq])
    have h7 := rmade_ok (sgn x) (digs r) (digs_norm _).dig (by omega) (sgn x * r) (by rw [val_digs hr]; exact hsx) (by rw [val_digs hr])
    generalize sgn x * sgn y * q = z1 at *
    generalize sgn x * r = z2 at *
    have hbad : (sgn x * sgn y < 0 ∧ ¬ digs r = []) → False := fun h => hcc ⟨h.1, by have := List.length_pos_iff.2 h.2; omega⟩
    refine ACalls.of_M TYok (qs := [zB z1, zB z2, cI 0]) [.cell 4 38, .cell 5 38, .tmp 6] 65 Tryz.func90 (by kernel_rfl) rfl rfl rfl fun G => ?_
    refine W.initA (hw := ?_)
    repeat' (first | ((first | apply U_ | (apply Ug_; exact rfl; exact rfl) | (apply Ugq_; exact rfl; exact rfl) | apply Lex.u | (apply Lex.g; exact rfl; exact rfl) | (apply Lex.gq; exact rfl; exact rfl)); (first | exact QX.B TYok | exact QX.Len TYok | exact QX.Ext TYok | exact QX.Build TYok | exact QCl (h1) | exact QCl (h2) | exact QCd (h3) | exact QCd (h6) | exact QCd (h7)); exact rfl) | refine SX.Alloc TYok (h := ?_) | refine SX.Store TYok (h := ?_) | refine SX.Lit TYok (h := ?_) | refine SX.Box TYok (h := ?_) | refine SC ?_ | (apply S_isnil TYok; exact rfl; exact rfl; exact rfl; exact Ev.auto; intro bn hnil) | refine SG ?_ | (apply W.draw2 (id := 7) [0, 1, 0, 4, 15, 0, 63, 0, 128, 0, 1023, 2047, 4095, 8191] [[2], [43], [3], [45], [44, 46], [7], [47, 48], [2], [50], [8], [51, 52]] 11 [(43, 4), (44, 8796093022208), (45, 8), (46, 35184372088832), (47, 87960930222080), (48, 128), (49, 422212465065984), (50, 4), (51, 1125899906842624), (52, 256), (53, 6755399441055744)] mixed (by kernel_rfl) rfl rfl) | (refine W.drawA (id := 8) (L := [false, false, false, false, false, false, false, false, false, false, false, false, false, false]) mixed rfl ?_) | exact RAll.nil | (refine RAll.cons rfl ?_ ?_) | (refine RA.step (L := [false, false, false, false, false, false, false, false, false, false, false, false, false, false]) (i := 0) (is := [1, 4, 6, 8]) (by kernel_rfl) ?_) | (refine RA.step (L := [false, false, false, false, false, false, false, false, true, false, false, false, false, false]) (i := 0) (is := [1, 4, 6]) (by kernel_rfl) ?_) | (refine RA.step (L := [false, false, false, false, false, false, true, false, true, false, false, false, false, false]) (i := 0) (is := [1, 4, 7]) (by kernel_rfl) ?_) | (refine RA.step (L := [false, false, false, false, false, false, true, true, true, false, false, false, false, false]) (i := 0) (is := [1, 4]) (by kernel_rfl) ?_) | (refine RA.step (L := [false, false, false, false, true, false, true, true, true, false, false, false, false, false]) (i := 0) (is := [1, 5]) (by kernel_rfl) ?_) | (refine RA.step (L := [false, false, false, false, true, true, true, true, true, false, false, false, false, false]) (i := 0) (is := [1]) (by kernel_rfl) ?_) | (refine RA.step (L := [false, true, false, false, true, true, true, true, true, false, false, false, false, false]) (i := 0) (is := []) (by kernel_rfl) ?_) | (refine RA.step (L := [true, true, false, false, true, true, true, true, true, false, false, false, false, false]) (i := 2) (is := []) (by kernel_rfl) ?_) | (refine RA.step (L := [true, true, true, false, true, true, true, true, true, false, false, false, false, false]) (i := 3) (is := []) (by kernel_rfl) ?_) | (refine RA.step (L := [true, true, true, true, true, true, true, true, true, false, false, false, false, false]) (i := 9) (is := []) (by kernel_rfl) ?_) | (refine RA.step (L := [true, true, true, true, true, true, true, true, true, true, false, false, false, false]) (i := 10) (is := []) (by kernel_rfl) ?_) | (refine RA.step (L := [true, true, true, true, true, true, true, true, true, true, true, false, false, false]) (i := 11) (is := []) (by kernel_rfl) ?_) | (refine RA.step (L := [true, true, true, true, true, true, true, true, true, true, true, true, false, false]) (i := 12) (is := []) (by kernel_rfl) ?_) | (refine RA.step (L := [true, true, true, true, true, true, true, true, true, true, true, true, true, false]) (i := 13) (is := []) (by kernel_rfl) ?_) | (refine RA.done (L := [true, true, true, true, true, true, true, true, true, true, true, true, true, true]) (by kernel_rfl) ?_) | (refine RA.step (L := [true, false, false, false, true, true, true, true, true, false, false, false, false, false]) (i := 1) (is := []) (by kernel_rfl) ?_) | (refine RA.step (L := [false, true, false, false, true, false, true, true, true, false, false, false, false, false]) (i := 0) (is := [5]) (by kernel_rfl) ?_) | (refine RA.step (L := [true, true, false, false, true, false, true, true, true, false, false, false, false, false]) (i := 2) (is := [5]) (by kernel_rfl) ?_) | (refine RA.step (L := [true, true, true, false, true, false, true, true, true, false, false, false, false, false]) (i := 3) (is := [5]) (by kernel_rfl) ?_) | (refine RA.step (L := [true, true, true, true, true, false, true, true, true, false, false, false, false, false]) (i := 5) (is := [9]) (by kernel_rfl) ?_) | (refine RA.step (L := [true, true, true, true, true, false, true, true, true, true, false, false, false, false]) (i := 5) (is := []) (by kernel_rfl) ?_) | (refine RA.step (L := [true, false, false, false, true, false, true, true, true, false, false, false, false, false]) (i := 1) (is := [5]) (by kernel_rfl) ?_) | (refine RA.step (L := [false, true, false, false, false, false, true, true, true, false, false, false, false, false]) (i := 0) (is := [4]) (by kernel_rfl) ?_) | (refine RA.step (L := [true, true, false, false, false, false, true, true, true, false, false, false, false, false]) (i := 2) (is := [4]) (by kernel_rfl) ?_) | (refine RA.step (L := [true, true, true, false, false, false, true, true, true, false, false, false, false, false]) (i := 3) (is := [4]) (by kernel_rfl) ?_) | (refine RA.step (L := [true, true, true, true, false, false, true, true, true, false, false, false, false, false]) (i := 4) (is := [9]) (by kernel_rfl) ?_) | (refine RA.step (L := [true, true, true, true, false, false, true, true, true, true, false, false, false, false]) (i := 4) (is := []) (by kernel_rfl) ?_) | (refine RA.step (L := [true, false, false, false, false, false, true, true, true, false, false, false, false, false]) (i := 1) (is := [4]) (by kernel_rfl) ?_) | (refine RA.step (L := [false, false, false, false, true, false, true, false, true, false, false, false, false, false]) (i := 0) (is := [1, 5, 7]) (by kernel_rfl) ?_) | (refine RA.step (L := [false, false, false, false, true, true, true, false, true, false, false, false, false, false]) (i := 0) (is := [1, 7]) (by kernel_rfl) ?_) | (refine RA.step (L := [false, true, false, false, true, true, true, false, true, false, false, false, false, false]) (i := 0) (is := [7]) (by kernel_rfl) ?_) | (refine RA.step (L := [true, true, false, false, true, true, true, false, true, false, false, false, false, false]) (i := 2) (is := [7]) (by kernel_rfl) ?_) | (refine RA.step (L := [true, true, true, false, true, true, true, false, true, false, false, false, false, false]) (i := 3) (is := [7]) (by kernel_rfl) ?_) | (refine RA.step (L := [true, true, true, true, true, true, true, false, true, false, false, false, false, false]) (i := 7) (is := []) (by kernel_rfl) ?_) | (refine RA.step (L := [true, false, false, false, true, true, true, false, true, false, false, false, false, false]) (i := 1) (is := [7]) (by kernel_rfl) ?_) | (refine RA.step (L := [false, true, false, false, true, false, true, false, true, false, false, false, false, false]) (i := 0) (is := [5, 7]) (by kernel_rfl) ?_) | (refine RA.step (L := [true, true, false, false, true, false, true, false, true, false, false, false, false, false]) (i := 2) (is := [5, 7]) (by kernel_rfl) ?_) | (refine RA.step (L := [true, true, true, false, true, false, true, false, true, false, false, false, false, false]) (i := 3) (is := [5, 7]) (by kernel_rfl) ?_) | (refine RA.step (L := [true, true, true, true, true, false, true, false, true, false, false, false, false, false]) (i := 5) (is := [7]) (by kernel_rfl) ?_) | (refine RA.step (L := [true, false, false, false, true, false, true, false, true, false, false, false, false, false]) (i := 1) (is := [5, 7]) (by kernel_rfl) ?_) | (refine RA.step (L := [false, true, false, false, false, false, true, false, true, false, false, false, false, false]) (i := 0) (is := [4, 7]) (by kernel_rfl) ?_) | (refine RA.step (L := [true, true, false, false, false, false, true, false, true, false, false, false, false, false]) (i := 2) (is := [4, 7]) (by kernel_rfl) ?_) | (refine RA.step (L := [true, true, true, false, false, false, true, false, true, false, false, false, false, false]) (i := 3) (is := [4, 7]) (by kernel_rfl) ?_) | (refine RA.step (L := [true, true, true, true, false, false, true, false, true, false, false, false, false, false]) (i := 4) (is := [7]) (by kernel_rfl) ?_) | (refine RA.step (L := [true, false, false, false, false, false, true, false, true, false, false, false, false, false]) (i := 1) (is := [4, 7]) (by kernel_rfl) ?_) | (refine RA.step (L := [false, false, false, false, true, false, false, false, true, false, false, false, false, false]) (i := 0) (is := [1, 5, 6]) (by kernel_rfl) ?_) | (refine RA.step (L := [false, false, false, false, true, true, false, false, true, false, false, false, false, false]) (i := 0) (is := [1, 6]) (by kernel_rfl) ?_) | (refine RA.step (L := [false, true, false, false, true, true, false, false, true, false, false, false, false, false]) (i := 0) (is := [6]) (by kernel_rfl) ?_) | (refine RA.step (L := [true, true, false, false, true, true, false, false, true, false, false, false, false, false]) (i := 2) (is := [6]) (by kernel_rfl) ?_) | (refine RA.step (L := [true, true, true, false, true, true, false, false, true, false, false, false, false, false]) (i := 3) (is := [6]) (by kernel_rfl) ?_) | (refine RA.step (L := [true, true, true, true, true, true, false, false, true, false, false, false, false, false]) (i := 6) (is := []) (by kernel_rfl) ?_) | (refine RA.step (L := [true, false, false, false, true, true, false, false, true, false, false, false, false, false]) (i := 1) (is := [6]) (by kernel_rfl) ?_) | (refine RA.step (L := [false, true, false, false, true, false, false, false, true, false, false, false, false, false]) (i := 0) (is := [5, 6]) (by kernel_rfl) ?_) | (refine RA.step (L := [true, true, false, false, true, false, false, false, true, false, false, false, false, false]) (i := 2) (is := [5, 6]) (by kernel_rfl) ?_) | (refine RA.step (L := [true, true, true, false, true, false, false, false, true, false, false, false, false, false]) (i := 3) (is := [5, 6]) (by kernel_rfl) ?_) | (refine RA.step (L := [true, true, true, true, true, false, false, false, true, false, false, false, false, false]) (i := 5) (is := [6]) (by kernel_rfl) ?_) | (refine RA.step (L := [true, false, false, false, true, false, false, false, true, false, false, false, false, false]) (i := 1) (is := [5, 6]) (by kernel_rfl) ?_) | (refine RA.step (L := [false, true, false, false, false, false, false, false, true, false, false, false, false, false]) (i := 0) (is := [4, 6]) (by kernel_rfl) ?_) | (refine RA.step (L := [true, true, false, false, false, false, false, false, true, false, false, false, false, false]) (i := 2) (is := [4, 6]) (by kernel_rfl) ?_) | (refine RA.step (L := [true, true, true, false, false, false, false, false, true, false, false, false, false, false]) (i := 3) (is := [4, 6]) (by kernel_rfl) ?_) | (refine RA.step (L := [true, true, true, true, false, false, false, false, true, false, false, false, false, false]) (i := 4) (is := [6]) (by kernel_rfl) ?_) | (refine RA.step (L := [true, false, false, false, false, false, false, false, true, false, false, false, false, false]) (i := 1) (is := [4, 6]) (by kernel_rfl) ?_) | (refine RA.step (L := [false, false, false, false, false, false, true, false, false, false, false, false, false, false]) (i := 0) (is := [1, 4, 7, 8]) (by kernel_rfl) ?_) | (refine RA.step (L := [false, false, false, false, false, false, true, true, false, false, false, false, false, false]) (i := 0) (is := [1, 4, 8]) (by kernel_rfl) ?_) | (refine RA.step (L := [false, false, false, false, true, false, true, true, false, false, false, false, false, false]) (i := 0) (is := [1, 5, 8]) (by kernel_rfl) ?_) | (refine RA.step (L := [false, false, false, false, true, true, true, true, false, false, false, false, false, false]) (i := 0) (is := [1, 8]) (by kernel_rfl) ?_) | (refine RA.step (L := [false, true, false, false, true, true, true, true, false, false, false, false, false, false]) (i := 0) (is := [8]) (by kernel_rfl) ?_) | (refine RA.step (L := [true, true, false, false, true, true, true, true, false, false, false, false, false, false]) (i := 2) (is := [8]) (by kernel_rfl) ?_) | (refine RA.step (L := [true, true, true, false, true, true, true, true, false, false, false, false, false, false]) (i := 3) (is := [8]) (by kernel_rfl) ?_) | (refine RA.step (L := [true, true, true, true, true, true, true, true, false, false, false, false, false, false]) (i := 8) (is := []) (by kernel_rfl) ?_) | (refine RA.step (L := [true, false, false, false, true, true, true, true, false, false, false, false, false, false]) (i := 1) (is := [8]) (by kernel_rfl) ?_) | (refine RA.step (L := [false, true, false, false, true, false, true, true, false, false, false, false, false, false]) (i := 0) (is := [5, 8]) (by kernel_rfl) ?_) | (refine RA.step (L := [true, true, false, false, true, false, true, true, false, false, false, false, false, false]) (i := 2) (is := [5, 8]) (by kernel_rfl) ?_) | (refine RA.step (L := [true, true, true, false, true, false, true, true, false, false, false, false, false, false]) (i := 3) (is := [5, 8]) (by kernel_rfl) ?_) | (refine RA.step (L := [true, true, true, true, true, false, true, true, false, false, false, false, false, false]) (i := 5) (is := [8]) (by kernel_rfl) ?_) | (refine RA.step (L := [true, false, false, false, true, false, true, true, false, false, false, false, false, false]) (i := 1) (is := [5, 8]) (by kernel_rfl) ?_) | (refine RA.step (L := [false, true, false, false, false, false, true, true, false, false, false, false, false, false]) (i := 0) (is := [4, 8]) (by kernel_rfl) ?_) | (refine RA.step (L := [true, true, false, false, false, false, true, true, false, false, false, false, false, false]) (i := 2) (is := [4, 8]) (by kernel_rfl) ?_) | (refine RA.step (L := [true, true, true, false, false, false, true, true, false, false, false, false, false, false]) (i := 3) (is := [4, 8]) (by kernel_rfl) ?_) | (refine RA.step (L := [true, true, true, true, false, false, true, true, false, false, false, false, false, false]) (i := 4) (is := [8]) (by kernel_rfl) ?_) | (refine RA.step (L := [true, false, false, false, false, false, true, true, false, false, false, false, false, false]) (i := 1) (is := [4, 8]) (by kernel_rfl) ?_) | (refine RA.step (L := [false, false, false, false, true, false, true, false, false, false, false, false, false, false]) (i := 0) (is := [1, 5, 7, 8]) (by kernel_rfl) ?_) | (refine RA.step (L := [false, false, false, false, true, true, true, false, false, false, false, false, false, false]) (i := 0) (is := [1, 7, 8]) (by kernel_rfl) ?_) | (refine RA.step (L := [false, true, false, false, true, true, true, false, false, false, false, false, false, false]) (i := 0) (is := [7, 8]) (by kernel_rfl) ?_) | (refine RA.step (L := [true, true, false, false, true, true, true, false, false, false, false, false, false, false]) (i := 2) (is := [7, 8]) (by kernel_rfl) ?_) | (refine RA.step (L := [true, true, true, false, true, true, true, false, false, false, false, false, false, false]) (i := 3) (is := [7, 8]) (by kernel_rfl) ?_) | (refine RA.step (L := [true, true, true, true, true, true, true, false, false, false, false, false, false, false]) (i := 7) (is := [8]) (by kernel_rfl) ?_) | (refine RA.step (L := [true, false, false, false, true, true, true, false, false, false, false, false, false, false]) (i := 1) (is := [7, 8]) (by kernel_rfl) ?_) | (refine RA.step (L := [false, true, false, false, true, false, true, false, false, false, false, false, false, false]) (i := 0) (is := [5, 7, 8]) (by kernel_rfl) ?_) | (refine RA.step (L := [true, true, false, false, true, false, true, false, false, false, false, false, false, false]) (i := 2) (is := [5, 7, 8]) (by kernel_rfl) ?_) | (refine RA.step (L := [true, true, true, false, true, false, true, false, false, false, false, false, false, false]) (i := 3) (is := [5, 7, 8]) (by kernel_rfl) ?_) | (refine RA.step (L := [true, true, true, true, true, false, true, false, false, false, false, false, false, false]) (i := 5) (is := [7, 8]) (by kernel_rfl) ?_) | (refine RA.step (L := [true, false, false, false, true, false, true, false, false, false, false, false, false, false]) (i := 1) (is := [5, 7, 8]) (by kernel_rfl) ?_) | (refine RA.step (L := [false, true, false, false, false, false, true, false, false, false, false, false, false, false]) (i := 0) (is := [4, 7, 8]) (by kernel_rfl) ?_) | (refine RA.step (L := [true, true, false, false, false, false, true, false, false, false, false, false, false, false]) (i := 2) (is := [4, 7, 8]) (by kernel_rfl) ?_) | (refine RA.step (L := [true, true, true, false, false, false, true, false, false, false, false, false, false, false]) (i := 3) (is := [4, 7, 8]) (by kernel_rfl) ?_) | (refine RA.step (L := [true, true, true, true, false, false, true, false, false, false, false, false, false, false]) (i := 4) (is := [7, 8]) (by kernel_rfl) ?_) | (refine RA.step (L := [true, false, false, false, false, false, true, false, false, false, false, false, false, false]) (i := 1) (is := [4, 7, 8]) (by kernel_rfl) ?_) | (refine RA.step (L := [false, false, false, false, true, false, false, false, false, false, false, false, false, false]) (i := 0) (is := [1, 5, 6, 8]) (by kernel_rfl) ?_) | (refine RA.step (L := [false, false, false, false, true, true, false, false, false, false, false, false, false, false]) (i := 0) (is := [1, 6, 8]) (by kernel_rfl) ?_) | (refine RA.step (L := [false, true, false, false, true, true, false, false, false, false, false, false, false, false]) (i := 0) (is := [6, 8]) (by kernel_rfl) ?_) | (refine RA.step (L := [true, true, false, false, true, true, false, false, false, false, false, false, false, false]) (i := 2) (is := [6, 8]) (by kernel_rfl) ?_) | (refine RA.step (L := [true, true, true, false, true, true, false, false, false, false, false, false, false, false]) (i := 3) (is := [6, 8]) (by kernel_rfl) ?_) | (refine RA.step (L := [true, true, true, true, true, true, false, false, false, false, false, false, false, false]) (i := 6) (is := [8]) (by kernel_rfl) ?_) | (refine RA.step (L := [true, false, false, false, true, true, false, false, false, false, false, false, false, false]) (i := 1) (is := [6, 8]) (by kernel_rfl) ?_) | (refine RA.step (L := [false, true, false, false, true, false, false, false, false, false, false, false, false, false]) (i := 0) (is := [5, 6, 8]) (by kernel_rfl) ?_) | (refine RA.step (L := [true, true, false, false, true, false, false, false, false, false, false, false, false, false]) (i := 2) (is := [5, 6, 8]) (by kernel_rfl) ?_) | (refine RA.step (L := [true, true, true, false, true, false, false, false, false, false, false, false, false, false]) (i := 3) (is := [5, 6, 8]) (by kernel_rfl) ?_) | (refine RA.step (L := [true, true, true, true, true, false, false, false, false, false, false, false, false, false]) (i := 5) (is := [6, 8]) (by kernel_rfl) ?_) | (refine RA.step (L := [true, false, false, false, true, false, false, false, false, false, false, false, false, false]) (i := 1) (is := [5, 6, 8]) (by kernel_rfl) ?_) | (refine RA.step (L := [false, true, false, false, false, false, false, false, false, false, false, false, false, false]) (i := 0) (is := [4, 6, 8]) (by kernel_rfl) ?_) | (refine RA.step (L := [true, true, false, false, false, false, false, false, false, false, false, false, false, false]) (i := 2) (is := [4, 6, 8]) (by kernel_rfl) ?_) | (refine RA.step (L := [true, true, true, false, false, false, false, false, false, false, false, false, false, false]) (i := 3) (is := [4, 6, 8]) (by kernel_rfl) ?_) | (refine RA.step (L := [true, true, true, true, false, false, false, false, false, false, false, false, false, false]) (i := 4) (is := [6, 8]) (by kernel_rfl) ?_) | (refine RA.step (L := [true, false, false, false, false, false, false, false, false, false, false, false, false, false]) (i := 1) (is := [4, 6, 8]) (by kernel_rfl) ?_) | (refine W.condA (ht := fun hb => ?_) (hf := fun hb => ?_) <;> (try simp at hb) <;> (try (exfalso; first | exact hbad hb | omega))))
    exact FinM.ret ResM.auto
theorem rgcdZ_ok (x y : Int) (hx : okZ x) (hy : okZ y) : ACalls Tryz.prog 89 [zB x, zB y] (.tup [zB (gcdZ x y), cI 0]) := by
  have h1 := rright_yes hx
  have h2 := rright_yes hy
  have l1 := num_len hx
  have l2 := num_len hy
  have hg := gcd_lt hx hy
  have hg0 : 0 ≤ gcdZ x y := by unfold gcdZ; omega
  refine ACalls.of_M TYok (qs := [zB (gcdZ x y), cI 0]) [.cell 4 38, .tmp 5] 36 Tryz.func89 (by kernel_rfl) rfl rfl rfl fun G => ?_
  refine W.initA (hw := ?_)
  repeat' (first | ((first | apply U_ | (apply Ug_; exact rfl; exact rfl) | (apply Ugq_; exact rfl; exact rfl)); (first | exact QX.B TYok | exact QX.Len TYok | exact QX.Ext TYok | exact QX.Build TYok | exact QCl (h1) | exact QCl (h2)); exact rfl) | refine SX.Alloc TYok (h := ?_) | refine SX.Store TYok (h := ?_) | refine SX.Box TYok (h := ?_) | refine SC ?_ | refine SG ?_ | (refine W.condA (ht := fun hb => ?_) (hf := fun hb => ?_) <;> (try simp at hb) <;> (try (exfalso; omega))))
  apply W.loopP (σ := Int × Int) 36 [4] (fun (u, v) => (0 ≤ u ∧ 0 ≤ v ∧ (Int.gcd u v : Int) = gcdZ x y ∧ u < pw 60 ∧ v < pw 60)) (fun (u, v) => [(6, (True, .pv (slI (digs u)))), (7, (True, .pv (slI (digs v))))]) (fun _ => [(4, ⟨38, 2, [[.int .i64 0, .slnil]]⟩)]) (fun (u, v) => v.toNat) ((mag x, mag y))
  case hp => repeat (first | exact Pick.nil | apply Pick.cons rfl)
  case h0 =>
    refine ⟨⟨mag_nn x, mag_nn y, by unfold gcdZ; rw [gcd_mag], hx, hy⟩, ?_⟩
    exact Le.auto
  case round =>
    rintro ⟨u, v⟩ ⟨g1, g2, g3, g4, g5⟩
    dsimp only at g1 g2 g3 g4 g5 ⊢
    have lu := (digs_len g1).2 g4
    have lv := (digs_len g2).2 g5
    have hv0 : (digs v).length = 0 ↔ v = 0 := by rw [List.length_eq_zero_iff, digs_nil g2]
    apply W.norm (by repeat (first | exact App.nil | apply App.cons))
    by_cases hv : v = 0
    · have hlv : (digs v).length = 0 := hv0.2 hv
      have hug : u = gcdZ x y := by rw [hv, Int.gcd_zero_right] at g3; omega
      have h7 := rmade_ok 1 (digs u) (digs_norm _).dig (by omega) (gcdZ x y) (.inl rfl) (by rw [val_digs g1]; omega)
      repeat' (first | ((first | apply U_ | (apply Ug_; exact rfl; exact rfl) | (apply Ugq_; exact rfl; exact rfl)); (first | exact QX.B TYok | exact QX.Len TYok | exact QX.Ext TYok | exact QX.Build TYok | exact QCd (h7)); exact rfl) | refine SX.Alloc TYok (h := ?_) | refine SX.Store TYok (h := ?_) | refine SX.Box TYok (h := ?_) | refine SC ?_ | refine SG ?_ | (refine W.condA (ht := fun hb => ?_) (hf := fun hb => ?_) <;> (try simp at hb) <;> (try (exfalso; omega))))
      exact FinM.ret ResM.auto
    · have hlv : (digs v).length ≠ 0 := fun e => hv (hv0.1 e)
      have h6 := rover_ok (digs u) (digs v) (digs_norm _).dig (digs_norm _).dig (by omega) (by omega) (by rw [val_digs g2]; omega)
      rw [val_digs g1, val_digs g2] at h6
      have r0 := Int.emod_nonneg u hv
      have r1 := Int.emod_lt_of_pos u (show 0 < v by omega)
      have r2 := gcd_step g1 (show 0 < v by omega)
      repeat' (first | ((first | apply U_ | (apply Ug_; exact rfl; exact rfl) | (apply Ugq_; exact rfl; exact rfl)); (first | exact QX.B TYok | exact QX.Len TYok | exact QX.Ext TYok | exact QX.Build TYok | exact QCd (h6)); exact rfl) | refine SX.Alloc TYok (h := ?_) | refine SX.Store TYok (h := ?_) | refine SX.Box TYok (h := ?_) | refine SC ?_ | refine SG ?_ | (refine W.condA (ht := fun hb => ?_) (hf := fun hb => ?_) <;> (try simp at hb) <;> (try (exfalso; omega))))
      · refine ⟨(v, u % v), ⟨g2, r0, by rw [r2]; exact g3, g5, by omega⟩, ?_, by (try simp only); omega⟩
        exact Le.auto
      · exact absurd (by rw [hb]; rfl) hlv
section
variable (s t : Int) (l m : List Int) (hl : l.length ≤ 9223372036854775807) (hm : m.length ≤ 9223372036854775807) (h : ¬ (rightB s l = true ∧ rightB t m = true))
include hl hm h
end
end Go.Proofs.YtjedkgogjehigaaGreat
end
section
set_option linter.unusedVariables false
set_option linter.unusedSimpArgs false
set_option maxHeartbeats 8000000
set_option linter.unusedSectionVars false
namespace Go.Proofs.YtjedkgogjehigaaGreat
open Lf Go
attribute [local irreducible] PureOp EffOp Ev RG W Then InBlock Lf.Fin nth App InitE Pick SubE EvL EvD EvP EvR ResL Lf.Lex SubR SubBR EvC FinO FinM ResM ResD FinS val pw digs trimL
section
theorem Q_remS {P : Program} {G : Ghost} {n0 : Nat} {env : List (Nat × (Prop × AV))} {bl : List (Nat × Blk)} {p : Prop} {dst : Option Nat} {ty : TypeId} {pos : String} {after : Array Edge} {gd : Option (Nat × Bool)} {xt yt : Nat} {x y : Operand} {m n r : Int} (hr : m.tmod n = r) (hz : n ≠ 0) (hx : Ev (St.mk n0 env bl) p x (.pv (.one (.int .i64 m)))) (hy : Ev (St.mk n0 env bl) p y (.pv (.one (.int .i64 n)))) :
    PureOp P G (St.mk n0 env bl) ⟨dst, .binOp .rem xt x y yt, ty, pos, after, gd⟩ p (.pv (.one (.int .i64 r))) := by
  have h := Q_rem (P := P) (G := G) (dst := dst) (ty := ty) (pos := pos) (after := after) (gd := gd) (xt := xt) (yt := yt) hx hy (fun _ => hz)
  rw [hr] at h
  exact h
theorem Q_quoS {P : Program} {G : Ghost} {n0 : Nat} {env : List (Nat × (Prop × AV))} {bl : List (Nat × Blk)} {p : Prop} {dst : Option Nat} {ty : TypeId} {pos : String} {after : Array Edge} {gd : Option (Nat × Bool)} {xt yt : Nat} {x y : Operand} {m n r : Int} (hr : m.tdiv n = r) (hz : n ≠ 0) (hb : -9223372036854775808 ≤ r ∧ r ≤ 9223372036854775807) (hx : Ev (St.mk n0 env bl) p x (.pv (.one (.int .i64 m)))) (hy : Ev (St.mk n0 env bl) p y (.pv (.one (.int .i64 n)))) :
    PureOp P G (St.mk n0 env bl) ⟨dst, .binOp .quo xt x y yt, ty, pos, after, gd⟩ p (.pv (.one (.int .i64 r))) := by
  have h := Q_quo (P := P) (G := G) (dst := dst) (ty := ty) (pos := pos) (after := after) (gd := gd) (xt := xt) (yt := yt) hx hy (fun _ => hz)
  rw [hr, i64_id hb] at h
  exact h
theorem rof_zero : ACalls Tryz.prog 59 [cI 0] (.pv (zB 0)) := by
  refine ACalls.of_M TYok (qs := [zB 0]) [.cell 2 38] 28 Tryz.func59 (by kernel_rfl) rfl rfl rfl fun G => ?_
  refine W.initA (hw := ?_)
  repeat' (first | ((first | apply U_); (first | exact QX.B TYok | exact QX.Build TYok); exact rfl) | refine SX.Alloc TYok (h := ?_) | refine SX.Store TYok (h := ?_) | refine SX.Lit TYok (h := ?_) | refine SX.App TYok (h := ?_) | refine SC ?_ | (apply S_isnil TYok; exact rfl; exact rfl; exact rfl; exact Ev.auto; intro bn hnil) | (refine W.condA (ht := fun hb => ?_) (hf := fun hb => ?_) <;> (try simp at hb) <;> (try (exfalso; omega))))
  exact FinM.ret (ResM.cell rfl rfl rfl rfl zeroSubZ ResM.nil)
theorem rof_neg (x : Int) (hx : i64B x) (h0 : x < 0) : ACalls Tryz.prog 59 [cI x] (.pv (zB x)) := by
  have c1 := sgn_cases x
  have hx' := hx
  unfold i64B at hx'
  have key : ∀ l : List Int, OfI x l 0 → l.length ≤ 10 → ACalls Tryz.prog 91 [cI (-1), slI l] (.pv (zB x)) := fun l hl hll =>
    rmade_ok (-1) l hl.dig (by omega) x (by omega) (by rw [hl.done]; omega)
  have m0 := i64_mag hx
  have m1 := mag_nn x
  have ex : -(mag x) = x := by omega
  refine ACalls.of_M TYok (qs := [zB x]) [.cell 2 38] 28 Tryz.func59 (by kernel_rfl) rfl rfl rfl fun G => ?_
  refine W.initA (hw := ?_)
  repeat' (first | (exfalso; omega) | ((first | apply U_); (first | exact QX.B TYok | exact QX.Build TYok); exact rfl) | refine SX.Alloc TYok (h := ?_) | refine SX.Store TYok (h := ?_) | refine SX.Lit TYok (h := ?_) | refine SX.App TYok (h := ?_) | refine SC ?_ | (apply S_isnil TYok; exact rfl; exact rfl; exact rfl; exact Ev.auto; intro bn hnil) | (refine W.condA (ht := fun hb => ?_) (hf := fun hb => ?_) <;> (try simp at hb) <;> (try (exfalso; omega))))
  refine W.weaken (Le.nilOwn (t := 4) (n := 22) (E := 3) (sz := 1) rfl) ?_
  apply W.loopP (σ := Int × List Int) 28 [] (fun (u, l) => OfI x l u ∧ l.length ≤ 4) (fun (u, l) => [(0, vI (-u)), (4, (True, .slc 22)), (3, vI (-1)), (2, (True, .addr 2 0 0))]) (fun (u, l) => [(2, ⟨38, 2, [[.int .i64 0, .slnil]]⟩), (22, ⟨3, 1, l.map Lf.encI⟩)]) (fun (u, l) => u.toNat) ((mag x, []))
  case hp => repeat (first | exact Pick.nil | apply Pick.cons rfl)
  case h0 =>
    refine ⟨⟨⟨Dig.nil, m1, by simp [val, pw]⟩, by simp⟩, ?_⟩
    dsimp only
    rw [ex]
    exact Le.auto
  case round =>
    rintro ⟨u, l⟩ ⟨g1, gl⟩
    dsimp only at g1 gl ⊢
    have g2 := g1.short hx
    have g3 := g1.u0
    have g6 : u ≤ mag x := by
      have := g1.eq
      have := val_lo g1.dig
      have := pw_pos l.length
      have : 1 * u ≤ pw l.length * u := Int.mul_le_mul_of_nonneg_right (by omega) g3
      omega
    apply W.norm (by repeat (first | exact App.nil | apply App.cons))
    by_cases hu : 0 < u
    · have g4 := g2.1 hu
      have e1 : (-u).tmod 1048576 = -(u % 1048576) := by rw [Int.neg_tmod, Int.tmod_eq_emod_of_nonneg g3]
      have e2 : (-u).tdiv 1048576 = -(u / 1048576) := by rw [Int.neg_tdiv, Int.tdiv_eq_ediv_of_nonneg g3]
      repeat' (first | ((first | apply U_); (first | (apply Q_quoS e2 (by decide) (by omega); exact Ev.auto; exact Ev.auto) | (apply Q_remS e1 (by decide); exact Ev.auto; exact Ev.auto) | exact QX.B TYok | exact QX.Build TYok); exact rfl) | refine SX.Alloc TYok (h := ?_) | refine SX.Store TYok (h := ?_) | refine SX.Lit TYok (h := ?_) | refine SX.App TYok (h := ?_) | refine SC ?_ | (apply S_isnil TYok; exact rfl; exact rfl; exact rfl; exact Ev.auto; intro bn hnil) | (refine W.condA (ht := fun hb => ?_) (hf := fun hb => ?_) <;> (try simp at hb) <;> (try (exfalso; omega))))
      · refine ⟨(u / 1048576, l ++ [u % 1048576]), ⟨g1.step, by simp; omega⟩, ?_, by (try simp only); omega⟩
        dsimp only
        try rw [Int.neg_neg]
        exact Le.auto
      · have e0 : -(u % 1048576) = u % 1048576 := by omega
        refine ⟨(u / 1048576, l ++ [u % 1048576]), ⟨g1.step, by simp; omega⟩, ?_, by (try simp only); omega⟩
        dsimp only
        rw [e0]
        exact Le.auto
    · obtain rfl : u = 0 := by omega
      have g5 : l.length ≤ 10 := by omega
      have k1 := key l g1 g5
      repeat' (first | (refine W.weaken (Le.freeze1 (m := 22) rfl) ?_; apply W.region (id := 13)) | ((first | apply U_); (first | exact QX.B TYok | exact QX.Build TYok | exact QCd (k1)); exact rfl) | refine SX.Alloc TYok (h := ?_) | refine SX.Store TYok (h := ?_) | refine SX.Lit TYok (h := ?_) | refine SX.App TYok (h := ?_) | refine SC ?_ | (apply S_isnil TYok; exact rfl; exact rfl; exact rfl; exact Ev.auto; intro bn hnil) | (refine W.condA (ht := fun hb => ?_) (hf := fun hb => ?_) <;> (try simp at hb) <;> (try (exfalso; omega))))
      exact FinM.ret ResM.auto
theorem rof_pos (x : Int) (hx : i64B x) (h0 : 0 < x) : ACalls Tryz.prog 59 [cI x] (.pv (zB x)) := by
  have c1 := sgn_cases x
  have hx' := hx
  unfold i64B at hx'
  have key : ∀ l : List Int, OfI x l 0 → l.length ≤ 10 → ACalls Tryz.prog 91 [cI (1), slI l] (.pv (zB x)) := fun l hl hll =>
    rmade_ok (1) l hl.dig (by omega) x (by omega) (by rw [hl.done]; omega)
  have m0 := i64_mag hx
  have m1 := mag_nn x
  have ex : mag x = x := by omega
  refine ACalls.of_M TYok (qs := [zB x]) [.cell 2 38] 28 Tryz.func59 (by kernel_rfl) rfl rfl rfl fun G => ?_
  refine W.initA (hw := ?_)
  repeat' (first | (exfalso; omega) | ((first | apply U_); (first | exact QX.B TYok | exact QX.Build TYok); exact rfl) | refine SX.Alloc TYok (h := ?_) | refine SX.Store TYok (h := ?_) | refine SX.Lit TYok (h := ?_) | refine SX.App TYok (h := ?_) | refine SC ?_ | (apply S_isnil TYok; exact rfl; exact rfl; exact rfl; exact Ev.auto; intro bn hnil) | (refine W.condA (ht := fun hb => ?_) (hf := fun hb => ?_) <;> (try simp at hb) <;> (try (exfalso; omega))))
  refine W.weaken (Le.nilOwn (t := 4) (n := 22) (E := 3) (sz := 1) rfl) ?_
  apply W.loopP (σ := Int × List Int) 28 [] (fun (u, l) => OfI x l u ∧ l.length ≤ 4) (fun (u, l) => [(0, vI (u)), (4, (True, .slc 22)), (3, vI (1)), (2, (True, .addr 2 0 0))]) (fun (u, l) => [(2, ⟨38, 2, [[.int .i64 0, .slnil]]⟩), (22, ⟨3, 1, l.map Lf.encI⟩)]) (fun (u, l) => u.toNat) ((mag x, []))
  case hp => repeat (first | exact Pick.nil | apply Pick.cons rfl)
  case h0 =>
    refine ⟨⟨⟨Dig.nil, m1, by simp [val, pw]⟩, by simp⟩, ?_⟩
    dsimp only
    rw [ex]
    exact Le.auto
  case round =>
    rintro ⟨u, l⟩ ⟨g1, gl⟩
    dsimp only at g1 gl ⊢
    have g2 := g1.short hx
    have g3 := g1.u0
    have g6 : u ≤ mag x := by
      have := g1.eq
      have := val_lo g1.dig
      have := pw_pos l.length
      have : 1 * u ≤ pw l.length * u := Int.mul_le_mul_of_nonneg_right (by omega) g3
      omega
    apply W.norm (by repeat (first | exact App.nil | apply App.cons))
    by_cases hu : 0 < u
    · have g4 := g2.1 hu
      repeat' (first | ((first | apply U_); (first | exact QX.B TYok | exact QX.Build TYok); exact rfl) | refine SX.Alloc TYok (h := ?_) | refine SX.Store TYok (h := ?_) | refine SX.Lit TYok (h := ?_) | refine SX.App TYok (h := ?_) | refine SC ?_ | (apply S_isnil TYok; exact rfl; exact rfl; exact rfl; exact Ev.auto; intro bn hnil) | (refine W.condA (ht := fun hb => ?_) (hf := fun hb => ?_) <;> (try simp at hb) <;> (try (exfalso; omega))))
      refine ⟨(u / 1048576, l ++ [u % 1048576]), ⟨g1.step, by simp; omega⟩, ?_, by (try simp only); omega⟩
      exact Le.auto
    · obtain rfl : u = 0 := by omega
      have g5 : l.length ≤ 10 := by omega
      have k1 := key l g1 g5
      repeat' (first | (refine W.weaken (Le.freeze1 (m := 22) rfl) ?_; apply W.region (id := 13)) | ((first | apply U_); (first | exact QX.B TYok | exact QX.Build TYok | exact QCd (k1)); exact rfl) | refine SX.Alloc TYok (h := ?_) | refine SX.Store TYok (h := ?_) | refine SX.Lit TYok (h := ?_) | refine SX.App TYok (h := ?_) | refine SC ?_ | (apply S_isnil TYok; exact rfl; exact rfl; exact rfl; exact Ev.auto; intro bn hnil) | (refine W.condA (ht := fun hb => ?_) (hf := fun hb => ?_) <;> (try simp at hb) <;> (try (exfalso; omega))))
      exact FinM.ret ResM.auto
theorem rof_ok (x : Int) (hx : i64B x) : ACalls Tryz.prog 59 [cI x] (.pv (zB x)) := by
  by_cases h0 : x = 0
  · subst h0; exact rof_zero
  · by_cases h1 : x < 0
    · exact rof_neg x hx h1
    · exact rof_pos x hx (by omega)
end
end Go.Proofs.YtjedkgogjehigaaGreat
end
section
set_option linter.unusedVariables false
set_option linter.unusedSimpArgs false
set_option maxHeartbeats 8000000
set_option linter.unusedSectionVars false
namespace Go.Proofs.YtjedkgogjehigaaGreat
open Lf Go
attribute [local irreducible] PureOp EffOp Ev RG W Then InBlock Lf.Fin nth App InitE Pick SubE EvL EvD EvP EvR ResL Lf.Lex SubR SubBR EvC FinO FinM ResM ResD FinS val pw digs trimL
section
attribute [local irreducible] sgn mag gcdZ quoZ remZ fullZ fullE
theorem right_sgn {s : Int} {l : List Int} (h : rightB s l = true) : -1 ≤ s ∧ s ≤ 1 := by
  obtain ⟨x, ox, rfl, rfl⟩ := right_num h
  have := sgn_cases x
  omega
theorem qright_ok (s : Int) (l : List Int) (s' : Int) (l' : List Int) (hl : l.length ≤ 9223372036854775807) (hl' : l'.length ≤ 9223372036854775807) : ACalls Tryz.prog 75 [fB s l s' l'] (.pv (cB (rightFB s l s' l'))) := by
  have r1 := rright_ok s l hl
  have r2 := rright_ok s' l' hl'
  have hs2 : rightB s' l' = true → s' ≤ 1 := fun h => (right_sgn h).2
  by_cases hw : (rightB s l = true ∧ rightB s' l' = true) ∧ s' = 1
  case neg =>
    have e : rightFB s l s' l' = false := by
      unfold rightFB
      cases h1 : rightB s l <;> cases h2 : rightB s' l' <;> simp_all
    rw [e]
    generalize rightB s l = b1 at r1 hw
    generalize rightB s' l' = b2 at r2 hw hs2
    have hbad : ((b1 = true ∧ b2 = true) ∧ 1 ≤ s') → False := fun h => hw ⟨h.1, by have := hs2 h.1.2; omega⟩
    refine ACalls.of_W (qs := [cB false]) [2] 33 Tryz.func75 (by kernel_rfl) rfl rfl rfl fun G => ?_
    refine W.initA (hw := ?_)
    repeat' (first | ((first | apply U_ | (apply Ug_; exact rfl; exact rfl) | (apply Ugq_; exact rfl; exact rfl) | apply Lex.u | (apply Lex.g; exact rfl; exact rfl) | (apply Lex.gq; exact rfl; exact rfl)); (first | exact QX.B TYok | exact QX.Ext TYok | exact QCd (r1) | exact QCd (r2)); exact rfl) | refine SX.Alloc TYok (h := ?_) | refine SX.Store TYok (h := ?_) | refine SX.Box TYok (h := ?_) | refine SC ?_ | (apply S_isnil TYok; exact rfl; exact rfl; exact rfl; exact Ev.auto; intro bn hnil) | refine SG ?_ | (apply W.draw2 (id := 4) [0, 0, 3, 7, 15] [[3], [], [29, 30], [31], [32]] 5 [(29, 8), (30, 0), (31, 1610612736), (32, 2147483648), (2, 4294967296)] mixed (by kernel_rfl) rfl rfl) | (refine W.condA (ht := fun hb => ?_) (hf := fun hb => ?_) <;> (try simp at hb) <;> (try (exfalso; first | exact hbad hb | omega))))
    all_goals exact Fin.ret ResL.auto
  obtain ⟨⟨q1, q2⟩, h1⟩ := hw
  have e : rightFB s l s' l' = decide (gcdZ (s * val l) (val l') = 1) := by unfold rightFB; rw [q1, q2, decide_eq_true h1]; simp
  rw [e]
  rw [q1] at r1
  rw [q2] at r2
  obtain ⟨x, ox, rfl, rfl⟩ := right_num q1
  obtain ⟨y, oy, rfl, rfl⟩ := right_num q2
  have cy := sgn_cases y
  have ey : val (digs (mag y)) = y := by rw [val_mag]; omega
  have ex : sgn x * val (digs (mag x)) = x := by rw [val_mag, sgn_mag]
  rw [ex, ey]
  have g1 := rgcdZ_ok x y ox oy
  have og := gcd_lt ox oy
  have o1 := rof_ok 1 (by unfold i64B; omega)
  have c1 := rcmpZ_ok (gcdZ x y) 1 og (i64_ok (by unfold i64B; omega))
  generalize gcdZ x y = g at *
  have hc := cmp_cases g 1
  have e2 : decide (g = 1) = decide (cmpI g 1 = 0) := decide_eq_decide.2 (by omega)
  rw [e2]
  generalize cmpI g 1 = c at *
  refine ACalls.of_W (qs := [cB (decide (c = 0))]) [2] 33 Tryz.func75 (by kernel_rfl) rfl rfl rfl fun G => ?_
  refine W.initA (hw := ?_)
  repeat' (first | ((first | apply U_ | (apply Ug_; exact rfl; exact rfl) | (apply Ugq_; exact rfl; exact rfl) | apply Lex.u | (apply Lex.g; exact rfl; exact rfl) | (apply Lex.gq; exact rfl; exact rfl)); (first | (apply Q_litD TYok; (repeat (first | exact EvR.nil | apply EvR.cons Ev.auto)); exact rfl; exact rfl; exact rfl; exact rfl; exact rfl; exact rfl) | exact QX.B TYok | exact QX.Ext TYok | exact QCd (r1) | exact QCd (r2) | exact QCd (g1) | exact QCd (o1) | exact QCd (c1)); exact rfl) | refine SX.Alloc TYok (h := ?_) | refine SX.Store TYok (h := ?_) | refine SX.Box TYok (h := ?_) | refine SC ?_ | (apply S_isnil TYok; exact rfl; exact rfl; exact rfl; exact Ev.auto; intro bn hnil) | refine SG ?_ | (apply W.draw2 (id := 4) [0, 0, 3, 7, 15] [[3], [], [29, 30], [31], [32]] 5 [(29, 8), (30, 0), (31, 1610612736), (32, 2147483648), (2, 4294967296)] mixed (by kernel_rfl) rfl rfl) | (refine W.condA (ht := fun hb => ?_) (hf := fun hb => ?_) <;> (try simp at hb) <;> (try (exfalso; omega))))
  all_goals exact Fin.ret ResL.auto
theorem qright_yes (r : Rat) (h : okF r) : ACalls Tryz.prog 75 [zF r] (.pv (cB true)) := by
  have hp := den_pos r
  have := qright_ok (sgn r.num) (digs (mag r.num)) (sgn r.den) (digs (mag r.den)) (by have := num_len h.1; omega) (by have := num_len h.2; omega)
  have e : rightFB (sgn r.num) (digs (mag r.num)) (sgn r.den) (digs (mag r.den)) = true := by
    unfold rightFB
    have c := sgn_cases r.den
    rw [num_right h.1, num_right h.2, decide_eq_true (show sgn r.den = 1 by omega), val_mag, val_mag, sgn_mag, show mag r.den = r.den by omega, num_den_gcd]; rfl
  rwa [e] at this
theorem qnew_pos (x y : Int) (hx : okZ x) (hy : okZ y) (h0 : 0 < y) : ACalls Tryz.prog 58 [zB x, zB y] (.tup [zF2 (quoZ x (gcdZ x y)) (quoZ y (gcdZ x y)), cI 0]) := by
  have r1 := rright_yes hx
  have r2 := rright_yes hy
  have cy := sgn_cases y
  have hg := gcd_pos (x := x) (show y ≠ 0 by omega)
  have og := gcd_lt hx hy
  have g1 := rgcdZ_ok x y hx hy
  have d1 := rdivZ_ok x (gcdZ x y) hx og (by omega)
  have d2 := rdivZ_ok y (gcdZ x y) hy og (by omega)
  generalize quoZ x (gcdZ x y) = a at *
  generalize quoZ y (gcdZ x y) = b at *
  generalize gcdZ x y = g at *
  refine ACalls.of_M TYok (qs := [zF2 a b, cI 0]) [.cell 4 40, .tmp 5] 57 Tryz.func58 (by kernel_rfl) rfl rfl rfl fun G => ?_
  refine W.initA (hw := ?_)
  repeat' (first | ((first | apply U_ | (apply Ug_; exact rfl; exact rfl) | (apply Ugq_; exact rfl; exact rfl)); (first | exact QX.B TYok | exact QX.Ext TYok | exact QX.Build TYok | exact QCd (r1) | exact QCd (r2) | exact QCd (g1) | exact QCd (d1) | exact QCd (d2)); exact rfl) | refine SX.Alloc TYok (h := ?_) | refine SX.Store TYok (h := ?_) | refine SX.Box TYok (h := ?_) | refine SC ?_ | (apply S_isnil TYok; exact rfl; exact rfl; exact rfl; exact Ev.auto; intro bn hnil) | refine SG ?_ | (refine W.condA (ht := fun hb => ?_) (hf := fun hb => ?_) <;> (try simp at hb) <;> (try (exfalso; omega))))
  all_goals exact FinM.ret ResM.auto
theorem qnew_neg (x y : Int) (hx : okZ x) (hy : okZ y) (h0 : y < 0) : ACalls Tryz.prog 58 [zB x, zB y] (.tup [zF2 (quoZ (-x) (gcdZ (-x) (-y))) (quoZ (-y) (gcdZ (-x) (-y))), cI 0]) := by
  have r1 := rright_yes hx
  have r2 := rright_yes hy
  have cy := sgn_cases y
  have n1 := rneg_ok x hx
  have n2 := rneg_ok y hy
  have ox := okZ_neg hx
  have oy := okZ_neg hy
  have hg := gcd_pos (x := -x) (show -y ≠ 0 by omega)
  have og := gcd_lt ox oy
  have g1 := rgcdZ_ok (-x) (-y) ox oy
  have d1 := rdivZ_ok (-x) (gcdZ (-x) (-y)) ox og (by omega)
  have d2 := rdivZ_ok (-y) (gcdZ (-x) (-y)) oy og (by omega)
  generalize quoZ (-x) (gcdZ (-x) (-y)) = a at *
  generalize quoZ (-y) (gcdZ (-x) (-y)) = b at *
  generalize gcdZ (-x) (-y) = g at *
  refine ACalls.of_M TYok (qs := [zF2 a b, cI 0]) [.cell 4 40, .tmp 5] 57 Tryz.func58 (by kernel_rfl) rfl rfl rfl fun G => ?_
  refine W.initA (hw := ?_)
  repeat' (first | ((first | apply U_ | (apply Ug_; exact rfl; exact rfl) | (apply Ugq_; exact rfl; exact rfl)); (first | exact QX.B TYok | exact QX.Ext TYok | exact QX.Build TYok | exact QCd (r1) | exact QCd (r2) | exact QCd (n1) | exact QCd (n2) | exact QCd (g1) | exact QCd (d1) | exact QCd (d2)); exact rfl) | refine SX.Alloc TYok (h := ?_) | refine SX.Store TYok (h := ?_) | refine SX.Box TYok (h := ?_) | refine SC ?_ | (apply S_isnil TYok; exact rfl; exact rfl; exact rfl; exact Ev.auto; intro bn hnil) | refine SG ?_ | (refine W.condA (ht := fun hb => ?_) (hf := fun hb => ?_) <;> (try simp at hb) <;> (try (exfalso; omega))))
  all_goals exact FinM.ret ResM.auto
theorem qnew_ok (x y : Int) (hx : okZ x) (hy : okZ y) (h0 : y ≠ 0) : ACalls Tryz.prog 58 [zB x, zB y] (.tup [zF (Rat.divInt x y), cI 0]) := by
  by_cases h : 0 < y
  · obtain ⟨e1, e2⟩ := divInt_pos (x := x) h
    have := qnew_pos x y hx hy h
    rwa [← e1, ← e2] at this
  · obtain ⟨e1, e2⟩ := divInt_pos (x := -x) (y := -y) (by omega)
    have := qnew_neg x y hx hy (by omega)
    rw [← e1, ← e2, divInt_flip] at this
    exact this
theorem qof_ok (p q : Int) (hp : i64B p) (hq : i64B q) (h0 : q ≠ 0) : ACalls Tryz.prog 34 [cI p, cI q] (.tup [zF (Rat.divInt p q), cI 0]) := by
  have z1 := rof_ok p hp
  have z2 := rof_ok q hq
  have n1 := qnew_ok p q (i64_ok hp) (i64_ok hq) h0
  generalize Rat.divInt p q = r at *
  refine ACalls.of_M TYok (qs := [zF r, cI 0]) [.cell 4 40, .tmp 5] 13 Tryz.func34 (by kernel_rfl) rfl rfl rfl fun G => ?_
  refine W.initA (hw := ?_)
  repeat' (first | ((first | apply U_); (first | exact QX.B TYok | exact QX.Ext TYok | exact QCd (z1) | exact QCd (z2) | exact QCd (n1)); exact rfl) | refine SX.Alloc TYok (h := ?_) | refine SX.Store TYok (h := ?_) | refine SC ?_ | (refine W.condA (ht := fun hb => ?_) (hf := fun hb => ?_) <;> (try simp at hb) <;> (try (exfalso; omega))))
  all_goals exact FinM.ret ResM.auto
end
section
attribute [local irreducible] sgn mag gcdZ quoZ remZ fullZ fullE
theorem qmade_yes (p q : Int) (hp : okZ p) (hq : okZ q) (h0 : q ≠ 0) : ACalls Tryz.prog 109 [zB p, zB q, cB false] (.tup [zF (Rat.divInt p q), cI 0]) := by
  have n1 := qnew_ok p q hp hq h0
  generalize Rat.divInt p q = r at *
  refine ACalls.of_M TYok (qs := [zF r, cI 0]) [.cell 6 40, .tmp 7] 15 Tryz.func109 (by kernel_rfl) rfl rfl rfl fun G => ?_
  refine W.initA (hw := ?_)
  repeat' (first | ((first | apply U_); (first | exact QX.B TYok | exact QX.Ext TYok | exact QX.Build TYok | exact QCd (n1)); exact rfl) | refine SX.Alloc TYok (h := ?_) | refine SX.Store TYok (h := ?_) | refine SX.Box TYok (h := ?_) | refine SC ?_ | (refine W.condA (ht := fun hb => ?_) (hf := fun hb => ?_) <;> (try simp at hb) <;> (try (exfalso; omega))))
  all_goals exact FinM.ret ResM.auto
theorem qmade_no (p q : Int) : ACalls Tryz.prog 109 [zB p, zB q, cB true] (.tup [zF0, cI 6]) := by
  refine ACalls.of_M TYok (qs := [zF0, cI 6]) [.cell 6 40, .tmp 7] 15 Tryz.func109 (by kernel_rfl) rfl rfl rfl fun G => ?_
  refine W.initA (hw := ?_)
  repeat' (first | ((first | apply U_); (first | exact QX.B TYok | exact QX.Ext TYok | exact QX.Build TYok); exact rfl) | refine SX.Alloc TYok (h := ?_) | refine SX.Store TYok (h := ?_) | refine SX.Box TYok (h := ?_) | refine SC ?_ | (refine W.condA (ht := fun hb => ?_) (hf := fun hb => ?_) <;> (try simp at hb) <;> (try (exfalso; omega))))
  all_goals exact FinM.ret (ResM.cell rfl rfl rfl rfl zeroSubF (ResM.tmp rfl rfl PSub.rfl' ResM.nil))
theorem qmul_yes (a b : Rat) (ha : okF a) (hb : okF b) (h : mulOk a b) : ACalls Tryz.prog 79 [zF a, zF b] (.tup [zF (a * b), cI 0]) := by
  obtain ⟨h1, h2⟩ := h
  have r1 := qright_yes a ha
  have r2 := qright_yes b hb
  have m1 := rmulZ_ok a.num b.num ha.1 hb.1
  rw [(full_yes h1).1, (full_yes h1).2] at m1
  have m2 := rmulZ_ok a.den b.den ha.2 hb.2
  rw [(full_yes h2).1, (full_yes h2).2] at m2
  have q1 := qmade_yes _ _ h1 h2 (mul_ne (den_ne a) (den_ne b))
  rw [rat_mul]
  generalize Rat.divInt (a.num * b.num) (a.den * b.den) = r at *
  refine ACalls.of_M TYok (qs := [zF r, cI 0]) [.cell 4 40, .tmp 5] 46 Tryz.func79 (by kernel_rfl) rfl rfl rfl fun G => ?_
  refine W.initA (hw := ?_)
  repeat' (first | ((first | apply U_ | (apply Ug_; exact rfl; exact rfl) | (apply Ugq_; exact rfl; exact rfl)); (first | exact QX.B TYok | exact QX.Ext TYok | exact QX.Build TYok | exact QCd (r1) | exact QCd (r2) | exact QCd (m1) | exact QCd (m2) | exact QCd (q1)); exact rfl) | refine SX.Alloc TYok (h := ?_) | refine SX.Store TYok (h := ?_) | refine SX.Box TYok (h := ?_) | refine SC ?_ | refine SG ?_ | (refine W.condA (ht := fun hb => ?_) (hf := fun hb => ?_) <;> (try simp at hb) <;> (try (exfalso; omega))))
  all_goals exact FinM.ret ResM.auto
theorem fullE_no {z : Int} (h : ¬ okZ z) : ¬ fullE z = 0 := by rw [(full_no h).2]; decide
theorem full_ok (z : Int) : okZ (fullZ z) := by
  by_cases h : okZ z
  · rw [(full_yes h).1]; exact h
  · rw [(full_no h).1]; exact okZ.zero
theorem qmul_no (a b : Rat) (ha : okF a) (hb : okF b) (h : ¬ mulOk a b) : ACalls Tryz.prog 79 [zF a, zF b] (.tup [zF0, cI 6]) := by
  have r1 := qright_yes a ha
  have r2 := qright_yes b hb
  have m1 := rmulZ_ok a.num b.num ha.1 hb.1
  have m2 := rmulZ_ok a.den b.den ha.2 hb.2
  have q1 := qmade_no (fullZ (a.num * b.num)) (fullZ (a.den * b.den))
  have hf : (!decide (fullE (a.num * b.num) = 0) || !decide (fullE (a.den * b.den) = 0)) = true := by
    rw [Bool.or_eq_true, Bool.not_eq_true', Bool.not_eq_true', decide_eq_false_iff_not, decide_eq_false_iff_not]
    unfold mulOk at h
    by_cases k1 : okZ (a.num * b.num)
    · by_cases k2 : okZ (a.den * b.den)
      · exact absurd ⟨k1, k2⟩ h
      · exact .inr (fullE_no k2)
    · exact .inl (fullE_no k1)
  rw [← hf] at q1
  generalize fullZ (a.num * b.num) = w1 at *
  generalize fullE (a.num * b.num) = e1 at *
  generalize fullZ (a.den * b.den) = w2 at *
  generalize fullE (a.den * b.den) = e2 at *
  refine ACalls.of_M TYok (qs := [zF0, cI 6]) [.cell 4 40, .tmp 5] 46 Tryz.func79 (by kernel_rfl) rfl rfl rfl fun G => ?_
  refine W.initA (hw := ?_)
  repeat' (first | ((first | apply U_ | (apply Ug_; exact rfl; exact rfl) | (apply Ugq_; exact rfl; exact rfl)); (first | exact QX.B TYok | exact QX.Ext TYok | exact QX.Build TYok | exact QCd (r1) | exact QCd (r2) | exact QCd (m1) | exact QCd (m2) | exact QCd (q1)); exact rfl) | refine SX.Alloc TYok (h := ?_) | refine SX.Store TYok (h := ?_) | refine SX.Box TYok (h := ?_) | refine SC ?_ | refine SG ?_ | (refine W.condA (ht := fun hb => ?_) (hf := fun hb => ?_) <;> (try simp at hb) <;> (try (exfalso; omega))))
  all_goals exact FinM.ret ResM.auto
theorem qdiv_yes (a b : Rat) (ha : okF a) (hb : okF b) (h0 : b.num ≠ 0) (h : divOk a b) : ACalls Tryz.prog 80 [zF a, zF b] (.tup [zF (a / b), cI 0]) := by
  obtain ⟨h1, h2⟩ := h
  have r1 := qright_yes a ha
  have r2 := qright_yes b hb
  have cb := sgn_cases b.num
  have m1 := rmulZ_ok a.num b.den ha.1 hb.2
  rw [(full_yes h1).1, (full_yes h1).2] at m1
  have m2 := rmulZ_ok a.den b.num ha.2 hb.1
  rw [(full_yes h2).1, (full_yes h2).2] at m2
  have q1 := qmade_yes _ _ h1 h2 (mul_ne (den_ne a) h0)
  rw [rat_div a b h0]
  generalize Rat.divInt (a.num * b.den) (a.den * b.num) = r at *
  refine ACalls.of_M TYok (qs := [zF r, cI 0]) [.cell 4 40, .tmp 5] 51 Tryz.func80 (by kernel_rfl) rfl rfl rfl fun G => ?_
  refine W.initA (hw := ?_)
  repeat' (first | ((first | apply U_ | (apply Ug_; exact rfl; exact rfl) | (apply Ugq_; exact rfl; exact rfl)); (first | exact QX.B TYok | exact QX.Ext TYok | exact QX.Build TYok | exact QCd (r1) | exact QCd (r2) | exact QCd (m1) | exact QCd (m2) | exact QCd (q1)); exact rfl) | refine SX.Alloc TYok (h := ?_) | refine SX.Store TYok (h := ?_) | refine SX.Box TYok (h := ?_) | refine SC ?_ | (apply S_isnil TYok; exact rfl; exact rfl; exact rfl; exact Ev.auto; intro bn hnil) | refine SG ?_ | (refine W.condA (ht := fun hb => ?_) (hf := fun hb => ?_) <;> (try simp at hb) <;> (try (exfalso; omega))))
  all_goals exact FinM.ret ResM.auto
theorem qdiv_zero (a b : Rat) (ha : okF a) (hb : okF b) (h0 : b.num = 0) : ACalls Tryz.prog 80 [zF a, zF b] (.tup [zF0, cI 15]) := by
  have r1 := qright_yes a ha
  have r2 := qright_yes b hb
  have cb := sgn_cases b.num
  refine ACalls.of_M TYok (qs := [zF0, cI 15]) [.cell 4 40, .tmp 5] 51 Tryz.func80 (by kernel_rfl) rfl rfl rfl fun G => ?_
  refine W.initA (hw := ?_)
  repeat' (first | ((first | apply U_ | (apply Ug_; exact rfl; exact rfl) | (apply Ugq_; exact rfl; exact rfl)); (first | exact QX.B TYok | exact QX.Ext TYok | exact QX.Build TYok | exact QCd (r1) | exact QCd (r2)); exact rfl) | refine SX.Alloc TYok (h := ?_) | refine SX.Store TYok (h := ?_) | refine SX.Box TYok (h := ?_) | refine SC ?_ | (apply S_isnil TYok; exact rfl; exact rfl; exact rfl; exact Ev.auto; intro bn hnil) | refine SG ?_ | (refine W.condA (ht := fun hb => ?_) (hf := fun hb => ?_) <;> (try simp at hb) <;> (try (exfalso; omega))))
  all_goals exact FinM.ret (ResM.cell rfl rfl rfl rfl zeroSubF (ResM.tmp rfl rfl PSub.rfl' ResM.nil))
theorem qdiv_no (a b : Rat) (ha : okF a) (hb : okF b) (h0 : b.num ≠ 0) (h : ¬ divOk a b) : ACalls Tryz.prog 80 [zF a, zF b] (.tup [zF0, cI 6]) := by
  have r1 := qright_yes a ha
  have r2 := qright_yes b hb
  have cb := sgn_cases b.num
  have m1 := rmulZ_ok a.num b.den ha.1 hb.2
  have m2 := rmulZ_ok a.den b.num ha.2 hb.1
  have q1 := qmade_no (fullZ (a.num * b.den)) (fullZ (a.den * b.num))
  have hf : (!decide (fullE (a.num * b.den) = 0) || !decide (fullE (a.den * b.num) = 0)) = true := by
    rw [Bool.or_eq_true, Bool.not_eq_true', Bool.not_eq_true', decide_eq_false_iff_not, decide_eq_false_iff_not]
    unfold divOk at h
    by_cases k1 : okZ (a.num * b.den)
    · by_cases k2 : okZ (a.den * b.num)
      · exact absurd ⟨k1, k2⟩ h
      · exact .inr (fullE_no k2)
    · exact .inl (fullE_no k1)
  rw [← hf] at q1
  generalize fullZ (a.num * b.den) = w1 at *
  generalize fullE (a.num * b.den) = e1 at *
  generalize fullZ (a.den * b.num) = w2 at *
  generalize fullE (a.den * b.num) = e2 at *
  refine ACalls.of_M TYok (qs := [zF0, cI 6]) [.cell 4 40, .tmp 5] 51 Tryz.func80 (by kernel_rfl) rfl rfl rfl fun G => ?_
  refine W.initA (hw := ?_)
  repeat' (first | ((first | apply U_ | (apply Ug_; exact rfl; exact rfl) | (apply Ugq_; exact rfl; exact rfl)); (first | exact QX.B TYok | exact QX.Ext TYok | exact QX.Build TYok | exact QCd (r1) | exact QCd (r2) | exact QCd (m1) | exact QCd (m2) | exact QCd (q1)); exact rfl) | refine SX.Alloc TYok (h := ?_) | refine SX.Store TYok (h := ?_) | refine SX.Box TYok (h := ?_) | refine SC ?_ | (apply S_isnil TYok; exact rfl; exact rfl; exact rfl; exact Ev.auto; intro bn hnil) | refine SG ?_ | (refine W.condA (ht := fun hb => ?_) (hf := fun hb => ?_) <;> (try simp at hb) <;> (try (exfalso; omega))))
  all_goals exact FinM.ret ResM.auto
end
section
attribute [local irreducible] sgn mag gcdZ quoZ remZ fullZ fullE
theorem qadd_yes (a b : Rat) (ha : okF a) (hb : okF b) (h : addOk a b) : ACalls Tryz.prog 77 [zF a, zF b] (.tup [zF (a + b), cI 0]) := by
  obtain ⟨⟨h1, h2, h3⟩, h4⟩ := h
  have r1 := qright_yes a ha
  have r2 := qright_yes b hb
  have m1 := rmulZ_ok a.num b.den ha.1 hb.2
  rw [(full_yes h1).1, (full_yes h1).2] at m1
  have m2 := rmulZ_ok b.num a.den hb.1 ha.2
  rw [(full_yes h2).1, (full_yes h2).2] at m2
  have m3 := rmulZ_ok a.den b.den ha.2 hb.2
  rw [(full_yes h4).1, (full_yes h4).2] at m3
  have m4 := raddZ_ok (a.num * b.den) (b.num * a.den) h1 h2
  rw [(full_yes h3).1, (full_yes h3).2] at m4
  have q1 := qmade_yes _ _ h3 h4 (mul_ne (den_ne a) (den_ne b))
  rw [rat_add]
  generalize Rat.divInt (a.num * b.den + b.num * a.den) (a.den * b.den) = r at *
  refine ACalls.of_M TYok (qs := [zF r, cI 0]) [.cell 4 40, .tmp 5] 72 Tryz.func77 (by kernel_rfl) rfl rfl rfl fun G => ?_
  refine W.initA (hw := ?_)
  repeat' (first | ((first | apply U_ | (apply Ug_; exact rfl; exact rfl) | (apply Ugq_; exact rfl; exact rfl)); (first | exact QX.B TYok | exact QX.Ext TYok | exact QX.Build TYok | exact QCd (r1) | exact QCd (r2) | exact QCd (m1) | exact QCd (m2) | exact QCd (m3) | exact QCd (m4) | exact QCd (q1)); exact rfl) | refine SX.Alloc TYok (h := ?_) | refine SX.Store TYok (h := ?_) | refine SX.Box TYok (h := ?_) | refine SC ?_ | refine SG ?_ | (refine W.condA (ht := fun hb => ?_) (hf := fun hb => ?_) <;> (try simp at hb) <;> (try (exfalso; omega))))
  all_goals exact FinM.ret ResM.auto
theorem sub_bad {x y q : Int} {op : Int → Int → Int} (h : ¬ ((okZ x ∧ okZ y ∧ okZ (op x y)) ∧ okZ q)) :
    (((!decide (fullE x = 0) || !decide (fullE y = 0)) || !decide (fullE q = 0)) || !decide (fullE (op (fullZ x) (fullZ y)) = 0)) = true := by
  simp only [Bool.or_eq_true, Bool.not_eq_true', decide_eq_false_iff_not]
  by_cases k1 : okZ x
  · by_cases k2 : okZ y
    · by_cases k3 : okZ q
      · refine .inr ?_
        rw [(full_yes k1).1, (full_yes k2).1]
        exact fullE_no fun k4 => h ⟨⟨k1, k2, k4⟩, k3⟩
      · exact .inl (.inr (fullE_no k3))
    · exact .inl (.inl (.inr (fullE_no k2)))
  · exact .inl (.inl (.inl (fullE_no k1)))
theorem qadd_no (a b : Rat) (ha : okF a) (hb : okF b) (h : ¬ addOk a b) : ACalls Tryz.prog 77 [zF a, zF b] (.tup [zF0, cI 6]) := by
  have r1 := qright_yes a ha
  have r2 := qright_yes b hb
  have m1 := rmulZ_ok a.num b.den ha.1 hb.2
  have m2 := rmulZ_ok b.num a.den hb.1 ha.2
  have m3 := rmulZ_ok a.den b.den ha.2 hb.2
  have m4 := raddZ_ok (fullZ (a.num * b.den)) (fullZ (b.num * a.den)) (full_ok _) (full_ok _)
  have q1 := qmade_no (fullZ (fullZ (a.num * b.den) + fullZ (b.num * a.den))) (fullZ (a.den * b.den))
  rw [← sub_bad (x := a.num * b.den) (y := b.num * a.den) (q := a.den * b.den) (op := fun x y => x + y) h] at q1
  generalize fullZ (fullZ (a.num * b.den) + fullZ (b.num * a.den)) = w4 at *
  generalize fullE (fullZ (a.num * b.den) + fullZ (b.num * a.den)) = e4 at *
  generalize fullZ (a.num * b.den) = w1 at *
  generalize fullE (a.num * b.den) = e1 at *
  generalize fullZ (b.num * a.den) = w2 at *
  generalize fullE (b.num * a.den) = e2 at *
  generalize fullZ (a.den * b.den) = w3 at *
  generalize fullE (a.den * b.den) = e3 at *
  refine ACalls.of_M TYok (qs := [zF0, cI 6]) [.cell 4 40, .tmp 5] 72 Tryz.func77 (by kernel_rfl) rfl rfl rfl fun G => ?_
  refine W.initA (hw := ?_)
  repeat' (first | ((first | apply U_ | (apply Ug_; exact rfl; exact rfl) | (apply Ugq_; exact rfl; exact rfl)); (first | exact QX.B TYok | exact QX.Ext TYok | exact QX.Build TYok | exact QCd (r1) | exact QCd (r2) | exact QCd (m1) | exact QCd (m2) | exact QCd (m3) | exact QCd (m4) | exact QCd (q1)); exact rfl) | refine SX.Alloc TYok (h := ?_) | refine SX.Store TYok (h := ?_) | refine SX.Box TYok (h := ?_) | refine SC ?_ | refine SG ?_ | (refine W.condA (ht := fun hb => ?_) (hf := fun hb => ?_) <;> (try simp at hb) <;> (try (exfalso; omega))))
  all_goals exact FinM.ret ResM.auto
def subOk (a b : Rat) : Prop := (okZ (a.num * b.den) ∧ okZ (b.num * a.den) ∧ okZ (a.num * b.den - b.num * a.den)) ∧ okZ (a.den * b.den)
theorem rat_sub (a b : Rat) : a - b = Rat.divInt (a.num * b.den - b.num * a.den) (a.den * b.den) := by
  rw [Rat.sub_eq_add_neg, rat_add, Rat.neg_num, Rat.neg_den]
  congr 1
  rw [Int.neg_mul]; omega
theorem okZ_negI {x : Int} : okZ (-x) ↔ okZ x := ⟨fun h => by have := okZ_neg h; rwa [Int.neg_neg] at this, okZ_neg⟩
theorem sub_add (a b : Rat) : subOk a b ↔ addOk a (-b) := by
  unfold subOk addOk sumOk
  rw [Rat.neg_num, Rat.neg_den, Int.neg_mul, okZ_negI, show a.num * (b.den : Int) + -(b.num * a.den) = a.num * b.den - b.num * a.den by omega]
theorem qsub_yes (a b : Rat) (ha : okF a) (hb : okF b) (h : subOk a b) : ACalls Tryz.prog 78 [zF a, zF b] (.tup [zF (a - b), cI 0]) := by
  obtain ⟨⟨h1, h2, h3⟩, h4⟩ := h
  have r1 := qright_yes a ha
  have r2 := qright_yes b hb
  have m1 := rmulZ_ok a.num b.den ha.1 hb.2
  rw [(full_yes h1).1, (full_yes h1).2] at m1
  have m2 := rmulZ_ok b.num a.den hb.1 ha.2
  rw [(full_yes h2).1, (full_yes h2).2] at m2
  have m3 := rmulZ_ok a.den b.den ha.2 hb.2
  rw [(full_yes h4).1, (full_yes h4).2] at m3
  have m4 := rsubZ_ok (a.num * b.den) (b.num * a.den) h1 h2
  rw [(full_yes h3).1, (full_yes h3).2] at m4
  have q1 := qmade_yes _ _ h3 h4 (mul_ne (den_ne a) (den_ne b))
  rw [rat_sub]
  generalize Rat.divInt (a.num * b.den - b.num * a.den) (a.den * b.den) = r at *
  refine ACalls.of_M TYok (qs := [zF r, cI 0]) [.cell 4 40, .tmp 5] 72 Tryz.func78 (by kernel_rfl) rfl rfl rfl fun G => ?_
  refine W.initA (hw := ?_)
  repeat' (first | ((first | apply U_ | (apply Ug_; exact rfl; exact rfl) | (apply Ugq_; exact rfl; exact rfl)); (first | exact QX.B TYok | exact QX.Ext TYok | exact QX.Build TYok | exact QCd (r1) | exact QCd (r2) | exact QCd (m1) | exact QCd (m2) | exact QCd (m3) | exact QCd (m4) | exact QCd (q1)); exact rfl) | refine SX.Alloc TYok (h := ?_) | refine SX.Store TYok (h := ?_) | refine SX.Box TYok (h := ?_) | refine SC ?_ | refine SG ?_ | (refine W.condA (ht := fun hb => ?_) (hf := fun hb => ?_) <;> (try simp at hb) <;> (try (exfalso; omega))))
  all_goals exact FinM.ret ResM.auto
theorem qsub_no (a b : Rat) (ha : okF a) (hb : okF b) (h : ¬ subOk a b) : ACalls Tryz.prog 78 [zF a, zF b] (.tup [zF0, cI 6]) := by
  have r1 := qright_yes a ha
  have r2 := qright_yes b hb
  have m1 := rmulZ_ok a.num b.den ha.1 hb.2
  have m2 := rmulZ_ok b.num a.den hb.1 ha.2
  have m3 := rmulZ_ok a.den b.den ha.2 hb.2
  have m4 := rsubZ_ok (fullZ (a.num * b.den)) (fullZ (b.num * a.den)) (full_ok _) (full_ok _)
  have q1 := qmade_no (fullZ (fullZ (a.num * b.den) - fullZ (b.num * a.den))) (fullZ (a.den * b.den))
  rw [← sub_bad (x := a.num * b.den) (y := b.num * a.den) (q := a.den * b.den) (op := fun x y => x - y) h] at q1
  generalize fullZ (fullZ (a.num * b.den) - fullZ (b.num * a.den)) = w4 at *
  generalize fullE (fullZ (a.num * b.den) - fullZ (b.num * a.den)) = e4 at *
  generalize fullZ (a.num * b.den) = w1 at *
  generalize fullE (a.num * b.den) = e1 at *
  generalize fullZ (b.num * a.den) = w2 at *
  generalize fullE (b.num * a.den) = e2 at *
  generalize fullZ (a.den * b.den) = w3 at *
  generalize fullE (a.den * b.den) = e3 at *
  refine ACalls.of_M TYok (qs := [zF0, cI 6]) [.cell 4 40, .tmp 5] 72 Tryz.func78 (by kernel_rfl) rfl rfl rfl fun G => ?_
  refine W.initA (hw := ?_)
  repeat' (first | ((first | apply U_ | (apply Ug_; exact rfl; exact rfl) | (apply Ugq_; exact rfl; exact rfl)); (first | exact QX.B TYok | exact QX.Ext TYok | exact QX.Build TYok | exact QCd (r1) | exact QCd (r2) | exact QCd (m1) | exact QCd (m2) | exact QCd (m3) | exact QCd (m4) | exact QCd (q1)); exact rfl) | refine SX.Alloc TYok (h := ?_) | refine SX.Store TYok (h := ?_) | refine SX.Box TYok (h := ?_) | refine SC ?_ | refine SG ?_ | (refine W.condA (ht := fun hb => ?_) (hf := fun hb => ?_) <;> (try simp at hb) <;> (try (exfalso; omega))))
  all_goals exact FinM.ret ResM.auto
theorem fsub_no (a b : Rat) (ha : okF a) (hb : okF b) (h : ¬ subOk a b) : ACalls Tryz.prog 71 [zF a, zF b] (.tup [zF0, cI 6]) := by
  have r1 := fright_yes a ha
  have r2 := fright_yes b hb
  have n1 := neg_ok b.num hb.1
  have a1 := add_no a (-b) ha (neg_okF hb) (fun k => h ((sub_add a b).2 k))
  rw [show zF (-b) = zF2 (-b.num) b.den by show zF2 (-b).num ((-b).den : Int) = _; rw [Rat.neg_num, Rat.neg_den]] at a1
  refine ACalls.of_M TYok (qs := [zF0, cI 6]) [.cell 4 40, .tmp 5] 25 Tryz.func71 (by kernel_rfl) rfl rfl rfl fun G => ?_
  refine W.initA (hw := ?_)
  repeat' (first | ((first | apply U_ | (apply Ug_; exact rfl; exact rfl) | (apply Ugq_; exact rfl; exact rfl) | apply Lex.u | (apply Lex.g; exact rfl; exact rfl) | (apply Lex.gq; exact rfl; exact rfl)); (first | exact QX.B TYok | exact QX.Ext TYok | exact QX.Build TYok | exact QCd (r1) | exact QCd (r2) | exact QCd (n1) | exact QCd (a1)); exact rfl) | refine SX.Alloc TYok (h := ?_) | refine SX.Store TYok (h := ?_) | refine SX.Box TYok (h := ?_) | refine SC ?_ | refine SG ?_ | (apply W.draw2 (id := 3) [0, 0, 2, 6, 0, 16, 62, 127, 255, 255, 1023, 2047] [[2], [3], [16], [17], [3], [19], [18, 20], [15, 21], [22], [22]] 10 [(15, 4), (16, 8), (17, 65536), (18, 131072), (19, 8), (20, 524288), (21, 1310720), (22, 2129920), (23, 4194304), (24, 4194304)] mixed (by kernel_rfl) rfl rfl) | (refine W.condA (ht := fun hb => ?_) (hf := fun hb => ?_) <;> (try simp at hb) <;> (try (exfalso; omega))))
  all_goals exact FinM.ret ResM.auto
theorem fmul_no (a b : Rat) (ha : okF a) (hb : okF b) (h : ¬ mulOk a b) : ACalls Tryz.prog 72 [zF a, zF b] (.tup [zF0, cI 6]) := by
  have r1 := fright_yes a ha
  have r2 := fright_yes b hb
  have m1 := mulZ_ok a.num b.num ha.1 hb.1
  have m2 := mulZ_ok a.den b.den ha.2 hb.2
  have q1 := quot_no (fullZ (a.num * b.num)) (fullE (a.num * b.num)) (fullZ (a.den * b.den)) (fullE (a.den * b.den)) (by
    unfold mulOk at h
    by_cases k1 : okZ (a.num * b.num)
    · by_cases k2 : okZ (a.den * b.den)
      · exact absurd ⟨k1, k2⟩ h
      · exact .inr (fullE_no k2)
    · exact .inl (fullE_no k1))
  generalize fullZ (a.num * b.num) = w1 at *
  generalize fullE (a.num * b.num) = e1 at *
  generalize fullZ (a.den * b.den) = w2 at *
  generalize fullE (a.den * b.den) = e2 at *
  refine ACalls.of_M TYok (qs := [zF0, cI 6]) [.cell 4 40, .tmp 5] 42 Tryz.func72 (by kernel_rfl) rfl rfl rfl fun G => ?_
  refine W.initA (hw := ?_)
  repeat' (first | ((first | apply U_ | (apply Ug_; exact rfl; exact rfl) | (apply Ugq_; exact rfl; exact rfl)); (first | exact QX.B TYok | exact QX.Ext TYok | exact QX.Build TYok | exact QCd (r1) | exact QCd (r2) | exact QCd (m1) | exact QCd (m2) | exact QCd (q1)); exact rfl) | refine SX.Alloc TYok (h := ?_) | refine SX.Store TYok (h := ?_) | refine SX.Box TYok (h := ?_) | refine SC ?_ | refine SG ?_ | (refine W.condA (ht := fun hb => ?_) (hf := fun hb => ?_) <;> (try simp at hb) <;> (try (exfalso; omega))))
  all_goals exact FinM.ret ResM.auto
theorem fdiv_no (a b : Rat) (ha : okF a) (hb : okF b) (h0 : b.num ≠ 0) (h : ¬ divOk a b) : ACalls Tryz.prog 73 [zF a, zF b] (.tup [zF0, cI 6]) := by
  have r1 := fright_yes a ha
  have r2 := fright_yes b hb
  have cb := sgn_cases b.num
  have m1 := mulZ_ok a.num b.den ha.1 hb.2
  have m2 := mulZ_ok a.den b.num ha.2 hb.1
  have q1 := quot_no (fullZ (a.num * b.den)) (fullE (a.num * b.den)) (fullZ (a.den * b.num)) (fullE (a.den * b.num)) (by
    unfold divOk at h
    by_cases k1 : okZ (a.num * b.den)
    · by_cases k2 : okZ (a.den * b.num)
      · exact absurd ⟨k1, k2⟩ h
      · exact .inr (fullE_no k2)
    · exact .inl (fullE_no k1))
  generalize fullZ (a.num * b.den) = w1 at *
  generalize fullE (a.num * b.den) = e1 at *
  generalize fullZ (a.den * b.num) = w2 at *
  generalize fullE (a.den * b.num) = e2 at *
  refine ACalls.of_M TYok (qs := [zF0, cI 6]) [.cell 4 40, .tmp 5] 49 Tryz.func73 (by kernel_rfl) rfl rfl rfl fun G => ?_
  refine W.initA (hw := ?_)
  repeat' (first | ((first | apply U_ | (apply Ug_; exact rfl; exact rfl) | (apply Ugq_; exact rfl; exact rfl)); (first | exact QX.B TYok | exact QX.Ext TYok | exact QX.Build TYok | exact QCd (r1) | exact QCd (r2) | exact QCd (m1) | exact QCd (m2) | exact QCd (q1)); exact rfl) | refine SX.Alloc TYok (h := ?_) | refine SX.Store TYok (h := ?_) | refine SX.Box TYok (h := ?_) | refine SC ?_ | (apply S_isnil TYok; exact rfl; exact rfl; exact rfl; exact Ev.auto; intro bn hnil) | refine SG ?_ | (refine W.condA (ht := fun hb => ?_) (hf := fun hb => ?_) <;> (try simp at hb) <;> (try (exfalso; omega))))
  all_goals exact FinM.ret ResM.auto
end
end Go.Proofs.YtjedkgogjehigaaGreat
end
section
set_option linter.unusedVariables false
set_option linter.unusedSimpArgs false
set_option maxHeartbeats 8000000
set_option linter.unusedSectionVars false
namespace Go.Proofs.YtjedkgogjehigaaGreat
open Lf Go
attribute [local irreducible] PureOp EffOp Ev RG W Then InBlock Lf.Fin nth App InitE Pick SubE EvL EvD EvP EvR ResL Lf.Lex SubR SubBR EvC FinO FinM ResM ResD FinS val pw digs trimL
section
attribute [local irreducible] sgn mag gcdZ quoZ remZ fullZ fullE
theorem qbelow_ok (n : Nat) : ∀ p q r s : Int, okZ p → okZ q → okZ r → okZ s → 0 < q → 0 < s → (q + s).toNat ≤ n → ACalls Tryz.prog 106 [zB p, zB q, zB r, zB s] (.pv (cI (cmpI (p * s) (r * q)))) := by
  induction n with
  | zero => intro p q r s _ _ _ _ hq hs hn; exfalso; omega
  | succ n ih =>
    intro p q r s op oq or' os hq hs hn
    have d1 := rdivZ_ok p q op oq (by omega)
    have d2 := rdivZ_ok r s or' os (by omega)
    have k1 := rcmpZ_ok (quoZ p q) (quoZ r s) (okZ_quo op (by omega)) (okZ_quo or' (by omega))
    have hu := (rem_rng (x := p) (y := q) (by omega)).1 hq
    have hv := (rem_rng (x := r) (y := s) (by omega)).1 hs
    have ou := okZ_rem (x := p) oq (by omega)
    have ov := okZ_rem (x := r) os (by omega)
    have cu := sgn_cases (remZ p q)
    have cv := sgn_cases (remZ r s)
    have cc := cmp_cases (quoZ p q) (quoZ r s)
    by_cases h1 : quoZ p q = quoZ r s
    · have e1 := cmp_same h1
      have kc : cmpI (quoZ p q) (quoZ r s) = 0 := by omega
      rw [kc] at k1
      by_cases h2 : remZ p q = 0 ∨ remZ r s = 0
      · have e2 := cmp_end hq hs hu.1 hv.1 h2
        rw [e1, e2]
        have hbad : (¬ sgn (remZ p q) = 0 ∧ ¬ sgn (remZ r s) = 0) → False := fun h => by omega
        generalize quoZ p q = x at *
        generalize remZ p q = u at *
        generalize quoZ r s = y at *
        generalize remZ r s = v at *
        refine ACalls.of_W (qs := [cI (sgn u - sgn v)]) [8] 54 Tryz.func106 (by kernel_rfl) rfl rfl rfl fun G => ?_
        refine W.initA (hw := ?_)
        repeat' (first | ((first | apply U_ | (apply Ug_; exact rfl; exact rfl) | (apply Ugq_; exact rfl; exact rfl)); (first | exact QX.B TYok | exact QX.Ext TYok | exact QCd (d1) | exact QCd (d2) | exact QCd (k1)); exact rfl) | refine SX.Alloc TYok (h := ?_) | refine SX.Store TYok (h := ?_) | refine SX.Box TYok (h := ?_) | refine SC ?_ | (apply S_isnil TYok; exact rfl; exact rfl; exact rfl; exact Ev.auto; intro bn hnil) | refine SG ?_ | (refine W.condA (ht := fun hb => ?_) (hf := fun hb => ?_) <;> (try simp at hb) <;> (try (exfalso; first | exact hbad hb | omega))))
        all_goals exact Fin.ret ResL.auto
      · have i1 := ih s (remZ r s) q (remZ p q) os ov oq ou (by omega) (by omega) (by omega)
        rw [e1, Int.mul_comm (remZ p q), Int.mul_comm (remZ r s)]
        have hbad : (sgn (remZ p q) = 0 ∨ sgn (remZ r s) = 0) → False := fun h => by omega
        generalize cmpI (s * remZ p q) (q * remZ r s) = c at *
        generalize quoZ p q = x at *
        generalize remZ p q = u at *
        generalize quoZ r s = y at *
        generalize remZ r s = v at *
        refine ACalls.of_W (qs := [cI c]) [8] 54 Tryz.func106 (by kernel_rfl) rfl rfl rfl fun G => ?_
        refine W.initA (hw := ?_)
        repeat' (first | ((first | apply U_ | (apply Ug_; exact rfl; exact rfl) | (apply Ugq_; exact rfl; exact rfl)); (first | exact QX.B TYok | exact QX.Ext TYok | exact QCd (d1) | exact QCd (d2) | exact QCd (k1) | exact QCd (i1)); exact rfl) | refine SX.Alloc TYok (h := ?_) | refine SX.Store TYok (h := ?_) | refine SX.Box TYok (h := ?_) | refine SC ?_ | (apply S_isnil TYok; exact rfl; exact rfl; exact rfl; exact Ev.auto; intro bn hnil) | refine SG ?_ | (refine W.condA (ht := fun hb => ?_) (hf := fun hb => ?_) <;> (try simp at hb) <;> (try (exfalso; first | exact hbad hb | omega))))
        all_goals exact Fin.ret ResL.auto
    · rw [cmp_quo hq hs h1]
      have hc : ¬ cmpI (quoZ p q) (quoZ r s) = 0 := by omega
      generalize cmpI (quoZ p q) (quoZ r s) = c at *
      generalize quoZ p q = x at *
      generalize remZ p q = u at *
      generalize quoZ r s = y at *
      generalize remZ r s = v at *
      refine ACalls.of_W (qs := [cI c]) [8] 54 Tryz.func106 (by kernel_rfl) rfl rfl rfl fun G => ?_
      refine W.initA (hw := ?_)
      repeat' (first | ((first | apply U_ | (apply Ug_; exact rfl; exact rfl) | (apply Ugq_; exact rfl; exact rfl)); (first | exact QX.B TYok | exact QX.Ext TYok | exact QCd (d1) | exact QCd (d2) | exact QCd (k1)); exact rfl) | refine SX.Alloc TYok (h := ?_) | refine SX.Store TYok (h := ?_) | refine SX.Box TYok (h := ?_) | refine SC ?_ | (apply S_isnil TYok; exact rfl; exact rfl; exact rfl; exact Ev.auto; intro bn hnil) | refine SG ?_ | (refine W.condA (ht := fun hb => ?_) (hf := fun hb => ?_) <;> (try simp at hb) <;> (try (exfalso; omega))))
      all_goals exact Fin.ret ResL.auto
theorem qcmp_ok (a b : Rat) (ha : okF a) (hb : okF b) : ACalls Tryz.prog 76 [zF a, zF b] (.pv (cI (cmpR a b))) := by
  have r1 := qright_yes a ha
  have r2 := qright_yes b hb
  have b1 := qbelow_ok _ a.num a.den b.num b.den ha.1 ha.2 hb.1 hb.2 (den_pos a) (den_pos b) (Nat.le_refl _)
  unfold cmpR
  generalize cmpI (a.num * b.den) (b.num * a.den) = c at *
  refine ACalls.of_W (qs := [cI c]) [4] 22 Tryz.func76 (by kernel_rfl) rfl rfl rfl fun G => ?_
  refine W.initA (hw := ?_)
  repeat' (first | ((first | apply U_ | (apply Ug_; exact rfl; exact rfl) | (apply Ugq_; exact rfl; exact rfl)); (first | exact QX.B TYok | exact QCd (r1) | exact QCd (r2) | exact QCd (b1)); exact rfl) | refine SX.Box TYok (h := ?_) | refine SC ?_ | refine SG ?_ | (refine W.condA (ht := fun hb => ?_) (hf := fun hb => ?_) <;> (try simp at hb) <;> (try (exfalso; omega))))
  all_goals exact Fin.ret ResL.auto
end
section
attribute [local irreducible] sgn mag gcdZ quoZ remZ fullZ fullE
end
section
variable (s s' t t' : Int) (l l' m m' : List Int) (hl : l.length ≤ 9223372036854775807) (hl' : l'.length ≤ 9223372036854775807) (hm : m.length ≤ 9223372036854775807) (hm' : m'.length ≤ 9223372036854775807) (h : ¬ (rightFB s l s' l' = true ∧ rightFB t m t' m' = true))
include hl hl' hm hm' h
end
end Go.Proofs.YtjedkgogjehigaaGreat
end
section
set_option linter.unusedVariables false
set_option linter.unusedSimpArgs false
set_option maxHeartbeats 8000000
set_option linter.unusedSectionVars false
namespace Go.Proofs.YtjedkgogjehigaaGreat
open Lf Go
attribute [local irreducible] PureOp EffOp Ev RG W Then InBlock Lf.Fin nth App InitE Pick SubE EvL EvD EvP EvR ResL Lf.Lex SubR SubBR EvC FinO FinM ResM ResD FinS val pw digs trimL
section
theorem divInt_one (n : Int) : Rat.divInt n 1 = (n : Rat) := by
  obtain ⟨h1, h2⟩ := rat_of (x := n) (y := 1) (by decide) (by unfold gcdZ; simp)
  refine Rat.ext ?_ ?_
  · rw [h1]; rfl
  · have : ((n : Rat).den : Int) = 1 := rfl
    omega
theorem okF_int {n : Int} (h : i64B n) : okF (n : Rat) := by
  rw [← divInt_one]
  exact okF_of (i64_ok h) (i64_ok (by unfold i64B; omega)) (by omega)
theorem cmpR_cases (a b : Rat) : (cmpR a b = -1 ∧ a < b) ∨ (cmpR a b = 0 ∧ a = b) ∨ (cmpR a b = 1 ∧ b < a) := by
  unfold cmpR
  rcases cmp_cases (a.num * b.den) (b.num * a.den) with h | h | h
  · exact .inl ⟨h.1, (Rat.lt_iff a b).2 h.2⟩
  · exact .inr (.inl ⟨h.1, Rat.le_antisymm ((Rat.le_iff a b).2 (by omega)) ((Rat.le_iff b a).2 (by omega))⟩)
  · exact .inr (.inr ⟨h.1, (Rat.lt_iff b a).2 h.2⟩)
theorem addOk_okF {a b : Rat} (h : addOk a b) : okF (a + b) := by
  rw [rat_add]
  exact okF_of h.1.2.2 h.2 (mul_ne (den_ne a) (den_ne b))
theorem mulOk_okF {a b : Rat} (h : mulOk a b) : okF (a * b) := by
  rw [rat_mul]
  exact okF_of h.1 h.2 (mul_ne (den_ne a) (den_ne b))
end
end Go.Proofs.YtjedkgogjehigaaGreat
end
