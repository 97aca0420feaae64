/-
  Big integers: the law of the texts.
-/
import Derived.Test.YtldgkgfkdipdeaaDoorWalk12
import Derived.Test.YtldgkgfkdipdeaaDoorLfPurge
import Derived.Test.YtldgkgfkdipdeaaDoorLfDrawM
set_option linter.unusedVariables false
set_option linter.unusedSimpArgs false
set_option maxHeartbeats 8000000
namespace Go.Proofs.YtldgkgfkdipdeaaDoor
open Lf Go
attribute [local irreducible] PureOp EffOp Ev RG W Then InBlock Lf.Fin nth App InitE Pick SubE SubF SubG EvL EvD EvP EvR ResL Lf.Lex SubR SubBR RA RAll EvC FinO FinM ResM FinB ResD FinS val pw digs trimL

theorem txt_snoc {x : Int} (h0 : x ≠ 0) : txtZ x ++ [55] = txtZ (x * 10 + 7 * sgn x) := by
  have c := sgn_cases x
  have e7 : dg 55 = 7 := by decide
  have e9 : 0 ≤ dg 55 ∧ dg 55 ≤ 9 := by decide
  unfold txtZ
  rcases c with c | c | c
  · rw [if_pos c.2.1, if_pos (by omega), c.1, show -(x * 10 + 7 * -1) = -x * 10 + dg 55 by omega, decZ_snoc (by omega) e9]; rfl
  · omega
  · rw [if_neg (by omega), if_neg (by omega), c.1, show x * 10 + 7 * 1 = x * 10 + dg 55 by omega, decZ_snoc (by omega) e9]
theorem read_over {y : Int} (h0 : y ≠ 0) (h : readL 0 (decZ (mag y)) = none) : readF (txtZ y) = (0, 6) := by
  have c := sgn_cases y
  by_cases hy : y < 0
  · rw [show mag y = -y by omega] at h
    rw [txtZ, if_pos hy, readF, if_neg (fun e => by have := (List.cons.inj e).1; revert this; decide), (cut_neg _).1, bad_dec (by omega), if_neg (by decide), h]
  · rw [show mag y = y by omega] at h
    have hne : ¬ decZ y = [48] := fun e => by
      have h2 := (dec_head y.toNat (by omega)).1
      unfold decZ at e; rw [e, show nth [(48 : UInt8)] 0 = 48 by simp [nth]] at h2; revert h2; decide
    rw [txtZ, if_neg hy, readF, if_neg hne, (cut_dec y).1, bad_dec (by omega), if_neg (by decide), h]
theorem readL_over {u : Int} (h : 0 < u ∧ u < pw 60) (h1 : pw 60 ≤ u * 10 + 7) : readL 0 (decZ (u * 10 + 7)) = none := by
  have e7 : dg 55 = 7 := by decide
  have := read_dec u.toNat (by omega)
  rw [← e7, decZ_snoc h.1 (by decide), readL_app]
  unfold decZ
  rw [this]
  show readL _ [55] = none
  rw [readL, if_pos (by rw [e7]; omega)]
/-- with one digit more -/
theorem read_snoc {x : Int} (hx : okZ x) (h0 : x ≠ 0) : (okZ (x * 10 + 7 * sgn x) ∧ readF (txtZ x ++ [55]) = (x * 10 + 7 * sgn x, 0)) ∨ (¬ okZ (x * 10 + 7 * sgn x) ∧ readF (txtZ x ++ [55]) = (0, 6)) := by
  rw [txt_snoc h0]
  by_cases h : okZ (x * 10 + 7 * sgn x)
  · exact .inl ⟨h, read_txt h⟩
  · refine .inr ⟨h, read_over ?_ ?_⟩
    · have := sgn_cases x; omega
    · have c := sgn_cases x
      have e : mag (x * 10 + 7 * sgn x) = mag x * 10 + 7 := by
        have := sgn_cases (x * 10 + 7 * sgn x); omega
      have h' : ¬ mag (x * 10 + 7 * sgn x) < pw 60 := h
      have hx' : mag x < pw 60 := hx
      rw [e] at h' ⊢
      exact readL_over ⟨by omega, hx'⟩ (by omega)
open Go.Lib in
theorem dec_len : ∀ (k : Nat) (u : Int), 0 ≤ u ∧ u < pk (k + 1) → (decZ u).length ≤ 5 * (k + 1)
  | 0, u, h => dec_short ⟨h.1, by have := h.2; simp only [pk] at this; omega⟩
  | k + 1, u, h => by
    by_cases h5 : u < 100000
    · have := dec_short ⟨h.1, h5⟩; omega
    · have e : pk (k + 1 + 1) = 65536 * pk (k + 1) := rfl
      have := dec_len k (u / 100000) (by omega)
      have e2 : (padZ (u % 100000)).length = 5 := by
        unfold padZ decZ
        rw [(dec_small (u % 100000).toNat (by omega)).2]; rfl
      rw [dec_div (by omega), List.length_append]
      omega
theorem txt_len {x : Int} (h : okZ x) : (txtZ x).length ≤ 376 := by
  have c := sgn_cases x
  unfold okZ at h
  rw [← pk75, show pk 75 = pk (74 + 1) from rfl] at h
  unfold txtZ
  split
  · have := dec_len 74 (-x) (by omega)
    simp only [List.length_cons]; omega
  · have := dec_len 74 x (by omega)
    omega
theorem textN_ok (s : Int) (l : List Int) (hl : l.length ≤ 9223372036854775807) (h : rightB s l = false) : ACalls Tryd.prog 18 [aB s l] (.pv (cS [])) := by
  have r1 := rightL_ok s l hl
  rw [h] at r1
  refine ACalls.of_W (qs := [cS []]) [2] 51 Tryd.func18 (by kernel_rfl) rfl rfl rfl fun G => ?_
  refine W.initA (hw := ?_)
  repeat' (first
    | ((first | apply U_); (first
    | exact QX.Move TYok
    | exact QX.Asg TYok
    | exact QX.Fld TYok
    | exact QX.Ld TYok
    | exact QX.Bin TYok
    | exact QX.Un TYok
    | exact QX.Len TYok
    | exact QX.Ext TYok
    | (apply Q_calld (r1); exact EvD.auto)); exact rfl)
    | refine SX.Lit TYok (h := ?_)
    | refine SX.App TYok (h := ?_)
    | refine SX.Box TYok (h := ?_)
    | apply RG.nil
    | apply Lex.nil
    | apply Then.n
    | apply Then.r
    | apply Then.x
    | apply InBlock.n
    | apply InBlock.r
    | apply InBlock.hit
    | (apply InBlock.miss; exact rfl)
    | apply W.seq
    | apply W.region
    | apply W.block
    | apply W.skip
    | apply W.ret
    | apply W.exit
    | (apply S_isnil TYok; exact rfl; exact rfl; exact rfl; exact Ev.auto; intro bn hnil)
    | (refine W.condA (ht := fun hb => ?_) (hf := fun hb => ?_) <;> (try simp at hb) <;> (try (exfalso; omega))))
  all_goals exact Fin.ret ResL.auto
theorem full_no {z : Int} (h : ¬ okZ z) : fullZ z = 0 ∧ fullE z = 6 := ⟨if_neg h, if_neg h⟩
theorem txt0 : txtZ 0 = [48] := Go.Lib.decDigits_one (i := 0) (by decide)
theorem sgn0 : sgn 0 = 0 := rfl
attribute [local irreducible] sgn mag gcdZ quoZ remZ txtZ readF fullZ fullE
set_option maxRecDepth 20000 in
theorem back_ok (s : Int) (l : List Int) (t : Str) (hl : l.length ≤ 9223372036854775807) (ht : t.length ≤ 9223372036854775807) : GCalls Tryd.prog 2 powC 4 [aB s l, cS t] (.pv (cB true)) := by
  have h0 := small_ok
  by_cases h4 : 400 < t.length
  case pos =>
    refine GCalls.of_M TYok (qs := [cB true]) [.tmp 4] 132 Tryd.func4 (by kernel_rfl) rfl rfl rfl fun G hG => ?_
    refine W.initA (hw := ?_)
    repeat' (first
      | ((first | apply U_ | (apply Ug_; exact rfl; exact rfl) | (apply Ugq_; exact rfl; exact rfl)); (first
    | exact QX.Move TYok
    | exact QX.Asg TYok
    | exact QX.Fld TYok
    | exact QX.Ld TYok
    | exact QX.Bin TYok
    | exact QX.Pick TYok
    | exact QX.Un TYok
    | exact QX.Len TYok
    | exact QX.Ext TYok
    | exact QX.Build TYok
    | (apply Q_callGd hG (h0); exact EvD.auto)
    | (apply Q_callG hG (h0); exact EvL.auto; exact rfl)); exact rfl)
      | refine SX.Alloc TYok (h := ?_)
      | refine SX.Store TYok (h := ?_)
      | refine SX.Box TYok (h := ?_)
      | apply RG.nil
      | apply Lex.nil
      | apply Then.n
      | apply Then.r
      | apply Then.x
      | apply InBlock.n
      | apply InBlock.r
      | apply InBlock.hit
      | (apply InBlock.miss; exact rfl)
      | apply W.seq
      | apply W.region
      | apply W.block
      | apply W.skip
      | apply W.ret
      | apply W.exit
      | (apply S_isnil TYok; exact rfl; exact rfl; exact rfl; exact Ev.auto; intro bn hnil)
      | (apply RG.gT; exact rfl; exact rfl; (first | assumption | decide))
      | (apply RG.gF; exact rfl; exact rfl; (first | assumption | decide | (rw [ne_eq, Bool.not_eq_true]; assumption) | (rw [ne_eq, Bool.not_eq_false]; assumption)); exact rfl)
      | (refine W.drawA (id := 15) (L := [false, false, false, false, false, false, false, false, false]) mixed rfl ?_)
      | exact RAll.nil
      | (refine RAll.cons rfl ?_ ?_)
      | (refine RA.step (L := [false, false, false, false, false, false, false, false, false]) (i := 0) (is := [1, 6]) (by kernel_rfl) ?_)
      | (refine RA.step (L := [false, false, false, false, false, false, true, false, false]) (i := 0) (is := [1]) (by kernel_rfl) ?_)
      | (refine RA.step (L := [false, true, false, false, false, false, true, false, false]) (i := 0) (is := []) (by kernel_rfl) ?_)
      | (refine RA.step (L := [true, true, false, false, false, false, true, false, false]) (i := 2) (is := []) (by kernel_rfl) ?_)
      | (refine RA.step (L := [true, true, true, false, false, false, true, false, false]) (i := 3) (is := []) (by kernel_rfl) ?_)
      | (refine RA.step (L := [true, true, true, true, false, false, true, false, false]) (i := 4) (is := [5]) (by kernel_rfl) ?_)
      | (refine RA.step (L := [true, true, true, true, false, true, true, false, false]) (i := 4) (is := []) (by kernel_rfl) ?_)
      | (refine RA.step (L := [true, true, true, true, true, true, true, false, false]) (i := 7) (is := []) (by kernel_rfl) ?_)
      | (refine RA.step (L := [true, true, true, true, true, true, true, true, false]) (i := 8) (is := []) (by kernel_rfl) ?_)
      | (refine RA.done (L := [true, true, true, true, true, true, true, true, true]) (by kernel_rfl) ?_)
      | (refine RA.step (L := [true, true, true, true, true, false, true, false, false]) (i := 5) (is := [7]) (by kernel_rfl) ?_)
      | (refine RA.step (L := [true, true, true, true, true, false, true, true, false]) (i := 5) (is := []) (by kernel_rfl) ?_)
      | (refine RA.step (L := [true, false, false, false, false, false, true, false, false]) (i := 1) (is := []) (by kernel_rfl) ?_)
      | (refine RA.step (L := [false, true, false, false, false, false, false, false, false]) (i := 0) (is := [6]) (by kernel_rfl) ?_)
      | (refine RA.step (L := [true, true, false, false, false, false, false, false, false]) (i := 2) (is := [6]) (by kernel_rfl) ?_)
      | (refine RA.step (L := [true, true, true, false, false, false, false, false, false]) (i := 3) (is := [6]) (by kernel_rfl) ?_)
      | (refine RA.step (L := [true, true, true, true, false, false, false, false, false]) (i := 4) (is := [5, 6]) (by kernel_rfl) ?_)
      | (refine RA.step (L := [true, true, true, true, false, true, false, false, false]) (i := 4) (is := [6]) (by kernel_rfl) ?_)
      | (refine RA.step (L := [true, true, true, true, true, true, false, false, false]) (i := 6) (is := []) (by kernel_rfl) ?_)
      | (refine RA.step (L := [true, true, true, true, true, false, false, false, false]) (i := 5) (is := [6]) (by kernel_rfl) ?_)
      | (refine RA.step (L := [true, false, false, false, false, false, false, false, false]) (i := 1) (is := [6]) (by kernel_rfl) ?_)
      | (refine W.drawA (id := 16) (L := [false, false, false, false, false, false, false, false, false, false, false, false]) mixed rfl ?_)
      | exact RAll.nil
      | (refine RAll.cons rfl ?_ ?_)
      | (refine RA.step (L := [false, false, false, false, false, false, false, false, false, false, false, false]) (i := 0) (is := [1, 9]) (by kernel_rfl) ?_)
      | (refine RA.step (L := [false, false, false, false, false, false, false, false, false, true, false, false]) (i := 0) (is := [1]) (by kernel_rfl) ?_)
      | (refine RA.step (L := [false, true, false, false, false, false, false, false, false, true, false, false]) (i := 0) (is := [2]) (by kernel_rfl) ?_)
      | (refine RA.step (L := [false, true, true, false, false, false, false, false, false, true, false, false]) (i := 0) (is := [3]) (by kernel_rfl) ?_)
      | (refine RA.step (L := [false, true, true, true, false, false, false, false, false, true, false, false]) (i := 0) (is := [4]) (by kernel_rfl) ?_)
      | (refine RA.step (L := [false, true, true, true, true, false, false, false, false, true, false, false]) (i := 0) (is := []) (by kernel_rfl) ?_)
      | (refine RA.step (L := [true, true, true, true, true, false, false, false, false, true, false, false]) (i := 5) (is := []) (by kernel_rfl) ?_)
      | (refine RA.step (L := [true, true, true, true, true, true, false, false, false, true, false, false]) (i := 6) (is := []) (by kernel_rfl) ?_)
      | (refine RA.step (L := [true, true, true, true, true, true, true, false, false, true, false, false]) (i := 7) (is := [8]) (by kernel_rfl) ?_)
      | (refine RA.step (L := [true, true, true, true, true, true, true, false, true, true, false, false]) (i := 7) (is := []) (by kernel_rfl) ?_)
      | (refine RA.step (L := [true, true, true, true, true, true, true, true, true, true, false, false]) (i := 10) (is := []) (by kernel_rfl) ?_)
      | (refine RA.step (L := [true, true, true, true, true, true, true, true, true, true, true, false]) (i := 11) (is := []) (by kernel_rfl) ?_)
      | (refine RA.done (L := [true, true, true, true, true, true, true, true, true, true, true, true]) (by kernel_rfl) ?_)
      | (refine RA.step (L := [true, true, true, true, true, true, true, true, false, true, false, false]) (i := 8) (is := [10]) (by kernel_rfl) ?_)
      | (refine RA.step (L := [true, true, true, true, true, true, true, true, false, true, true, false]) (i := 8) (is := []) (by kernel_rfl) ?_)
      | (refine RA.step (L := [true, true, true, true, false, false, false, false, false, true, false, false]) (i := 4) (is := []) (by kernel_rfl) ?_)
      | (refine RA.step (L := [true, true, true, false, false, false, false, false, false, true, false, false]) (i := 3) (is := []) (by kernel_rfl) ?_)
      | (refine RA.step (L := [true, true, false, false, false, false, false, false, false, true, false, false]) (i := 2) (is := []) (by kernel_rfl) ?_)
      | (refine RA.step (L := [true, false, false, false, false, false, false, false, false, true, false, false]) (i := 1) (is := []) (by kernel_rfl) ?_)
      | (refine RA.step (L := [false, true, false, false, false, false, false, false, false, false, false, false]) (i := 0) (is := [2, 9]) (by kernel_rfl) ?_)
      | (refine RA.step (L := [false, true, true, false, false, false, false, false, false, false, false, false]) (i := 0) (is := [3, 9]) (by kernel_rfl) ?_)
      | (refine RA.step (L := [false, true, true, true, false, false, false, false, false, false, false, false]) (i := 0) (is := [4, 9]) (by kernel_rfl) ?_)
      | (refine RA.step (L := [false, true, true, true, true, false, false, false, false, false, false, false]) (i := 0) (is := [9]) (by kernel_rfl) ?_)
      | (refine RA.step (L := [true, true, true, true, true, false, false, false, false, false, false, false]) (i := 5) (is := [9]) (by kernel_rfl) ?_)
      | (refine RA.step (L := [true, true, true, true, true, true, false, false, false, false, false, false]) (i := 6) (is := [9]) (by kernel_rfl) ?_)
      | (refine RA.step (L := [true, true, true, true, true, true, true, false, false, false, false, false]) (i := 7) (is := [8, 9]) (by kernel_rfl) ?_)
      | (refine RA.step (L := [true, true, true, true, true, true, true, false, true, false, false, false]) (i := 7) (is := [9]) (by kernel_rfl) ?_)
      | (refine RA.step (L := [true, true, true, true, true, true, true, true, true, false, false, false]) (i := 9) (is := []) (by kernel_rfl) ?_)
      | (refine RA.step (L := [true, true, true, true, true, true, true, true, false, false, false, false]) (i := 8) (is := [9]) (by kernel_rfl) ?_)
      | (refine RA.step (L := [true, true, true, true, false, false, false, false, false, false, false, false]) (i := 4) (is := [9]) (by kernel_rfl) ?_)
      | (refine RA.step (L := [true, true, true, false, false, false, false, false, false, false, false, false]) (i := 3) (is := [9]) (by kernel_rfl) ?_)
      | (refine RA.step (L := [true, true, false, false, false, false, false, false, false, false, false, false]) (i := 2) (is := [9]) (by kernel_rfl) ?_)
      | (refine RA.step (L := [true, false, false, false, false, false, false, false, false, false, false, false]) (i := 1) (is := [9]) (by kernel_rfl) ?_)
      | (refine W.condA (ht := fun hb => ?_) (hf := fun hb => ?_) <;> (try simp at hb) <;> (try (exfalso; omega))))
    all_goals first
      | exact FinM.ret ResM.auto
      | (exfalso; omega)
      | exact FinM.ret (ResM.tmp rfl rfl (PSub.of_eq (congrArg (fun b => PV.one (Cell.bool b)) (by simp only [Bool.and_eq_true, Bool.or_eq_true, decide_eq_true_iff, true_and]; omega))) ResM.nil)
      | trace_state
  have d0 := readF_ok t ht
  have hc := readF_cases t
  have hv : okZ (readF t).1 := by
    rcases hc with h | h
    · exact h.2.1
    · rw [h.2]; exact okZ.zero
  have ht1 : (readF t).2 = 0 → txtZ (readF t).1 = t := fun e => by
    rcases hc with h | h
    · exact h.2.2
    · omega
  have he : (readF t).2 = 0 ∨ (((readF t).2 = 2 ∨ (readF t).2 = 6) ∧ (readF t).1 = 0) := by
    rcases hc with h | h
    · exact .inl h.1
    · exact .inr h
  have hbad : ((readF t).2 = 0 ∧ ¬ txtZ (readF t).1 = t) ∨ (¬ (readF t).2 = 0 ∧ ((¬ (readF t).2 = 2 ∧ ¬ (readF t).2 = 6) ∨ ¬ (readF t).1 = 0)) → False := by
    rintro (⟨q1, q2⟩ | ⟨q1, q2⟩)
    · exact q2 (ht1 q1)
    · omega
  have rv := right_yes hv
  have tv := text_ok _ hv
  have sv := sameZ_ok _ 0 hv okZ.zero
  generalize (readF t).1 = v at *
  generalize (readF t).2 = e at *
  generalize hu : txtZ v = u at *
  have r1 := rightL_ok s l hl
  cases hr : rightB s l with
  | false =>
    have t1 := textN_ok s l hl hr
    rw [hr] at r1
    refine GCalls.of_M TYok (qs := [cB true]) [.tmp 4] 132 Tryd.func4 (by kernel_rfl) rfl rfl rfl fun G hG => ?_
    refine W.initA (hw := ?_)
    repeat' (first
      | (refine W.purgeR [(7, [2, 5]), (11, [2, 5, 8, 9, 10]), (15, [2, 5, 8]), (16, [2, 5, 8, 11, 12]), (17, [5, 8, 12, 13, 14])] rfl (by repeat (first | exact PN.nil | apply PN.po rfl | (apply PN.pa; exact rfl; (repeat (first | (apply NR.cons; exact rfl) | exact NR.nil rfl))) | apply PN.a rfl | apply PN.s rfl | apply PN.u rfl | apply PN.m rfl | apply PN.k rfl | apply PN.i rfl | apply PN.skip)) (by repeat (first | exact PB.nil | (apply PB.one; exact rfl; (focus (first | (dsimp only; done) | (dsimp only; exact rfl) | exact rfl)); (focus (first | (dsimp only; done) | (dsimp only; exact rfl) | exact rfl)); exact rfl; (repeat (first | (apply NR.cons; exact rfl) | exact NR.nil rfl))) | apply PB.cons rfl)) ?_)
      | ((first | apply U_ | (apply Ug_; exact rfl; exact rfl) | (apply Ugq_; exact rfl; exact rfl)); (first
    | exact QX.Move TYok
    | exact QX.Asg TYok
    | exact QX.Fld TYok
    | exact QX.Ld TYok
    | exact QX.Bin TYok
    | exact QX.Pick TYok
    | exact QX.Un TYok
    | exact QX.Len TYok
    | exact QX.Ext TYok
    | exact QX.Build TYok
    | (apply Q_callGd hG (h0); exact EvD.auto)
    | (apply Q_callG hG (h0); exact EvL.auto; exact rfl)
    | (apply Q_calld (d0); exact EvD.auto)
    | (apply Q_calld (rv); exact EvD.auto)
    | (apply Q_callGd hG (tv); exact EvD.auto)
    | (apply Q_callG hG (tv); exact EvL.auto; exact rfl)
    | (apply Q_calld (sv); exact EvD.cons Ev.auto PSub.rfl' (EvD.cons Ev.auto zeroSubZ EvD.nil))
    | (apply Q_calld (r1); exact EvD.auto)
    | (apply Q_calld (t1); exact EvD.auto)); exact rfl)
      | refine SX.Alloc TYok (h := ?_)
      | refine SX.Store TYok (h := ?_)
      | refine SX.Box TYok (h := ?_)
      | apply RG.nil
      | apply Lex.nil
      | apply Then.n
      | apply Then.r
      | apply Then.x
      | apply InBlock.n
      | apply InBlock.r
      | apply InBlock.hit
      | (apply InBlock.miss; exact rfl)
      | apply W.seq
      | apply W.region
      | apply W.block
      | apply W.skip
      | apply W.ret
      | apply W.exit
      | (apply S_isnil TYok; exact rfl; exact rfl; exact rfl; exact Ev.auto; intro bn hnil)
      | (apply RG.gT; exact rfl; exact rfl; (first | assumption | decide))
      | (apply RG.gF; exact rfl; exact rfl; (first | assumption | decide | (rw [ne_eq, Bool.not_eq_true]; assumption) | (rw [ne_eq, Bool.not_eq_false]; assumption)); exact rfl)
      | (refine W.drawM (id := 15) [([false, false, false, false, false, false, false, false, false], [(0, 1), (1, 2), (6, 3)]), ([true, false, false, false, false, false, false, false, false], [(1, 4), (6, 5)]), ([false, true, false, false, false, false, false, false, false], [(0, 4), (6, 6)]), ([false, false, false, false, false, false, true, false, false], [(0, 5), (1, 6)]), ([true, true, false, false, false, false, false, false, false], [(2, 7), (6, 8)]), ([true, false, false, false, false, false, true, false, false], [(1, 8)]), ([false, true, false, false, false, false, true, false, false], [(0, 8)]), ([true, true, true, false, false, false, false, false, false], [(3, 9), (6, 10)]), ([true, true, false, false, false, false, true, false, false], [(2, 10)]), ([true, true, true, true, false, false, false, false, false], [(4, 11), (5, 12), (6, 13)]), ([true, true, true, false, false, false, true, false, false], [(3, 13)]), ([true, true, true, true, true, false, false, false, false], [(5, 14), (6, 15)]), ([true, true, true, true, false, true, false, false, false], [(4, 14), (6, 16)]), ([true, true, true, true, false, false, true, false, false], [(4, 15), (5, 16)]), ([true, true, true, true, true, true, false, false, false], [(6, 17)]), ([true, true, true, true, true, false, true, false, false], [(5, 17), (7, 18)]), ([true, true, true, true, false, true, true, false, false], [(4, 17)]), ([true, true, true, true, true, true, true, false, false], [(7, 19)]), ([true, true, true, true, true, false, true, true, false], [(5, 19)]), ([true, true, true, true, true, true, true, true, false], [(8, 20)]), ([true, true, true, true, true, true, true, true, true], [])] [?_, ?_, ?_, ?_, ?_, ?_, ?_, ?_, ?_, ?_, ?_, ?_, ?_, ?_, ?_, ?_, ?_, ?_, ?_, ?_, ?_] mixed (by kernel_rfl) rfl rfl rfl rfl ?_ ?_ rfl ?_; rotate_left 21)
      | exact MN.nil
      | (refine MN.cons ?_ ?_)
      | exact MG.nil
      | (refine MG.cons rfl rfl ?_ ?_)
      | exact Le.refl
      | (refine Le.st rfl (by repeat (first | exact SubEK.nil | refine SubEK.skip rfl ?_ | refine SubEK.one rfl (by first | exact trivial | exact rfl) ?_)) (by repeat (first | exact SubBK.nil | refine SubBK.skip rfl ?_ | refine SubBK.one rfl ?_)))
      | (refine W.drawM (id := 16) [([false, false, false, false, false, false, false, false, false, false, false, false], [(0, 1), (1, 2), (9, 3)]), ([true, false, false, false, false, false, false, false, false, false, false, false], [(1, 4), (9, 5)]), ([false, true, false, false, false, false, false, false, false, false, false, false], [(0, 4), (2, 6), (9, 7)]), ([false, false, false, false, false, false, false, false, false, true, false, false], [(0, 5), (1, 7)]), ([true, true, false, false, false, false, false, false, false, false, false, false], [(2, 8), (9, 9)]), ([true, false, false, false, false, false, false, false, false, true, false, false], [(1, 9)]), ([false, true, true, false, false, false, false, false, false, false, false, false], [(0, 8), (3, 10), (9, 11)]), ([false, true, false, false, false, false, false, false, false, true, false, false], [(0, 9), (2, 11)]), ([true, true, true, false, false, false, false, false, false, false, false, false], [(3, 12), (9, 13)]), ([true, true, false, false, false, false, false, false, false, true, false, false], [(2, 13)]), ([false, true, true, true, false, false, false, false, false, false, false, false], [(0, 12), (4, 14), (9, 15)]), ([false, true, true, false, false, false, false, false, false, true, false, false], [(0, 13), (3, 15)]), ([true, true, true, true, false, false, false, false, false, false, false, false], [(4, 16), (9, 17)]), ([true, true, true, false, false, false, false, false, false, true, false, false], [(3, 17)]), ([false, true, true, true, true, false, false, false, false, false, false, false], [(0, 16), (9, 18)]), ([false, true, true, true, false, false, false, false, false, true, false, false], [(0, 17), (4, 18)]), ([true, true, true, true, true, false, false, false, false, false, false, false], [(5, 19), (9, 20)]), ([true, true, true, true, false, false, false, false, false, true, false, false], [(4, 20)]), ([false, true, true, true, true, false, false, false, false, true, false, false], [(0, 20)]), ([true, true, true, true, true, true, false, false, false, false, false, false], [(6, 21), (9, 22)]), ([true, true, true, true, true, false, false, false, false, true, false, false], [(5, 22)]), ([true, true, true, true, true, true, true, false, false, false, false, false], [(7, 23), (8, 24), (9, 25)]), ([true, true, true, true, true, true, false, false, false, true, false, false], [(6, 25)]), ([true, true, true, true, true, true, true, true, false, false, false, false], [(8, 26), (9, 27)]), ([true, true, true, true, true, true, true, false, true, false, false, false], [(7, 26), (9, 28)]), ([true, true, true, true, true, true, true, false, false, true, false, false], [(7, 27), (8, 28)]), ([true, true, true, true, true, true, true, true, true, false, false, false], [(9, 29)]), ([true, true, true, true, true, true, true, true, false, true, false, false], [(8, 29), (10, 30)]), ([true, true, true, true, true, true, true, false, true, true, false, false], [(7, 29)]), ([true, true, true, true, true, true, true, true, true, true, false, false], [(10, 31)]), ([true, true, true, true, true, true, true, true, false, true, true, false], [(8, 31)]), ([true, true, true, true, true, true, true, true, true, true, true, false], [(11, 32)]), ([true, true, true, true, true, true, true, true, true, true, true, true], [])] [?_, ?_, ?_, ?_, ?_, ?_, ?_, ?_, ?_, ?_, ?_, ?_, ?_, ?_, ?_, ?_, ?_, ?_, ?_, ?_, ?_, ?_, ?_, ?_, ?_, ?_, ?_, ?_, ?_, ?_, ?_, ?_, ?_] mixed (by kernel_rfl) rfl rfl rfl rfl ?_ ?_ rfl ?_; rotate_left 33)
      | exact MN.nil
      | (refine MN.cons ?_ ?_)
      | exact MG.nil
      | (refine MG.cons rfl rfl ?_ ?_)
      | exact Le.refl
      | (refine Le.st rfl (by repeat (first | exact SubEK.nil | refine SubEK.skip rfl ?_ | refine SubEK.one rfl (by first | exact trivial | exact rfl) ?_)) (by repeat (first | exact SubBK.nil | refine SubBK.skip rfl ?_ | refine SubBK.one rfl ?_)))
      | (refine W.condA (ht := fun hb => ?_) (hf := fun hb => ?_) <;> (try simp at hb) <;> (try (exfalso; first | exact hbad hb | omega))))
    all_goals first
      | exact FinM.ret ResM.auto
      | (exfalso; omega)
      | exact FinM.ret (ResM.tmp rfl rfl (PSub.of_eq (congrArg (fun b => PV.one (Cell.bool b)) (by simp only [Bool.and_eq_true, Bool.or_eq_true, decide_eq_true_iff, true_and]; omega))) ResM.nil)
      | trace_state
  | true =>
    rw [hr] at r1
    obtain ⟨x, ox, rfl, rfl⟩ := right_num hr
    have t1 := text_ok x ox
    have hlen := txt_len ox
    have d1 := readF_ok (txtZ x) (by omega)
    rw [read_txt ox] at d1
    have e1 := sameZ_ok x x ox ox
    rw [decide_eq_true rfl] at e1
    by_cases h1 : x = 0
    · subst h1
      have e0 := sgn0
      have et := txt0
      rw [et] at t1 d1
      refine GCalls.of_M TYok (qs := [cB true]) [.tmp 4] 132 Tryd.func4 (by kernel_rfl) rfl rfl rfl fun G hG => ?_
      refine W.initA (hw := ?_)
      repeat' (first
        | (refine W.purgeR [(7, [2, 5]), (11, [2, 5, 8, 9, 10]), (15, [2, 5, 8]), (16, [2, 5, 8, 11, 12]), (17, [5, 8, 12, 13, 14])] rfl (by repeat (first | exact PN.nil | apply PN.po rfl | (apply PN.pa; exact rfl; (repeat (first | (apply NR.cons; exact rfl) | exact NR.nil rfl))) | apply PN.a rfl | apply PN.s rfl | apply PN.u rfl | apply PN.m rfl | apply PN.k rfl | apply PN.i rfl | apply PN.skip)) (by repeat (first | exact PB.nil | (apply PB.one; exact rfl; (focus (first | (dsimp only; done) | (dsimp only; exact rfl) | exact rfl)); (focus (first | (dsimp only; done) | (dsimp only; exact rfl) | exact rfl)); exact rfl; (repeat (first | (apply NR.cons; exact rfl) | exact NR.nil rfl))) | apply PB.cons rfl)) ?_)
        | ((first | apply U_ | (apply Ug_; exact rfl; exact rfl) | (apply Ugq_; exact rfl; exact rfl)); (first
    | exact QX.Move TYok
    | exact QX.Asg TYok
    | exact QX.Fld TYok
    | exact QX.Ld TYok
    | exact QX.Bin TYok
    | exact QX.Pick TYok
    | exact QX.Un TYok
    | exact QX.Len TYok
    | exact QX.Ext TYok
    | exact QX.Build TYok
    | (apply Q_callGd hG (h0); exact EvD.auto)
    | (apply Q_callG hG (h0); exact EvL.auto; exact rfl)
    | (apply Q_calld (d0); exact EvD.auto)
    | (apply Q_calld (rv); exact EvD.auto)
    | (apply Q_callGd hG (tv); exact EvD.auto)
    | (apply Q_callG hG (tv); exact EvL.auto; exact rfl)
    | (apply Q_calld (sv); exact EvD.cons Ev.auto PSub.rfl' (EvD.cons Ev.auto zeroSubZ EvD.nil))
    | (apply Q_calld (r1); exact EvD.auto)
    | (apply Q_callGd hG (t1); exact EvD.auto)
    | (apply Q_callG hG (t1); exact EvL.auto; exact rfl)
    | (apply Q_calld (d1); exact EvD.auto)
    | (apply Q_calld (e1); exact EvD.auto)); exact rfl)
        | refine SX.Alloc TYok (h := ?_)
        | refine SX.Store TYok (h := ?_)
        | refine SX.Box TYok (h := ?_)
        | apply RG.nil
        | apply Lex.nil
        | apply Then.n
        | apply Then.r
        | apply Then.x
        | apply InBlock.n
        | apply InBlock.r
        | apply InBlock.hit
        | (apply InBlock.miss; exact rfl)
        | apply W.seq
        | apply W.region
        | apply W.block
        | apply W.skip
        | apply W.ret
        | apply W.exit
        | (apply S_isnil TYok; exact rfl; exact rfl; exact rfl; exact Ev.auto; intro bn hnil)
        | (apply RG.gT; exact rfl; exact rfl; (first | assumption | decide))
        | (apply RG.gF; exact rfl; exact rfl; (first | assumption | decide | (rw [ne_eq, Bool.not_eq_true]; assumption) | (rw [ne_eq, Bool.not_eq_false]; assumption)); exact rfl)
        | (refine W.drawM (id := 15) [([false, false, false, false, false, false, false, false, false], [(0, 1), (1, 2), (6, 3)]), ([true, false, false, false, false, false, false, false, false], [(1, 4), (6, 5)]), ([false, true, false, false, false, false, false, false, false], [(0, 4), (6, 6)]), ([false, false, false, false, false, false, true, false, false], [(0, 5), (1, 6)]), ([true, true, false, false, false, false, false, false, false], [(2, 7), (6, 8)]), ([true, false, false, false, false, false, true, false, false], [(1, 8)]), ([false, true, false, false, false, false, true, false, false], [(0, 8)]), ([true, true, true, false, false, false, false, false, false], [(3, 9), (6, 10)]), ([true, true, false, false, false, false, true, false, false], [(2, 10)]), ([true, true, true, true, false, false, false, false, false], [(4, 11), (5, 12), (6, 13)]), ([true, true, true, false, false, false, true, false, false], [(3, 13)]), ([true, true, true, true, true, false, false, false, false], [(5, 14), (6, 15)]), ([true, true, true, true, false, true, false, false, false], [(4, 14), (6, 16)]), ([true, true, true, true, false, false, true, false, false], [(4, 15), (5, 16)]), ([true, true, true, true, true, true, false, false, false], [(6, 17)]), ([true, true, true, true, true, false, true, false, false], [(5, 17), (7, 18)]), ([true, true, true, true, false, true, true, false, false], [(4, 17)]), ([true, true, true, true, true, true, true, false, false], [(7, 19)]), ([true, true, true, true, true, false, true, true, false], [(5, 19)]), ([true, true, true, true, true, true, true, true, false], [(8, 20)]), ([true, true, true, true, true, true, true, true, true], [])] [?_, ?_, ?_, ?_, ?_, ?_, ?_, ?_, ?_, ?_, ?_, ?_, ?_, ?_, ?_, ?_, ?_, ?_, ?_, ?_, ?_] mixed (by kernel_rfl) rfl rfl rfl rfl ?_ ?_ rfl ?_; rotate_left 21)
        | exact MN.nil
        | (refine MN.cons ?_ ?_)
        | exact MG.nil
        | (refine MG.cons rfl rfl ?_ ?_)
        | exact Le.refl
        | (refine Le.st rfl (by repeat (first | exact SubEK.nil | refine SubEK.skip rfl ?_ | refine SubEK.one rfl (by first | exact trivial | exact rfl) ?_)) (by repeat (first | exact SubBK.nil | refine SubBK.skip rfl ?_ | refine SubBK.one rfl ?_)))
        | (refine W.drawM (id := 16) [([false, false, false, false, false, false, false, false, false, false, false, false], [(0, 1), (1, 2), (9, 3)]), ([true, false, false, false, false, false, false, false, false, false, false, false], [(1, 4), (9, 5)]), ([false, true, false, false, false, false, false, false, false, false, false, false], [(0, 4), (2, 6), (9, 7)]), ([false, false, false, false, false, false, false, false, false, true, false, false], [(0, 5), (1, 7)]), ([true, true, false, false, false, false, false, false, false, false, false, false], [(2, 8), (9, 9)]), ([true, false, false, false, false, false, false, false, false, true, false, false], [(1, 9)]), ([false, true, true, false, false, false, false, false, false, false, false, false], [(0, 8), (3, 10), (9, 11)]), ([false, true, false, false, false, false, false, false, false, true, false, false], [(0, 9), (2, 11)]), ([true, true, true, false, false, false, false, false, false, false, false, false], [(3, 12), (9, 13)]), ([true, true, false, false, false, false, false, false, false, true, false, false], [(2, 13)]), ([false, true, true, true, false, false, false, false, false, false, false, false], [(0, 12), (4, 14), (9, 15)]), ([false, true, true, false, false, false, false, false, false, true, false, false], [(0, 13), (3, 15)]), ([true, true, true, true, false, false, false, false, false, false, false, false], [(4, 16), (9, 17)]), ([true, true, true, false, false, false, false, false, false, true, false, false], [(3, 17)]), ([false, true, true, true, true, false, false, false, false, false, false, false], [(0, 16), (9, 18)]), ([false, true, true, true, false, false, false, false, false, true, false, false], [(0, 17), (4, 18)]), ([true, true, true, true, true, false, false, false, false, false, false, false], [(5, 19), (9, 20)]), ([true, true, true, true, false, false, false, false, false, true, false, false], [(4, 20)]), ([false, true, true, true, true, false, false, false, false, true, false, false], [(0, 20)]), ([true, true, true, true, true, true, false, false, false, false, false, false], [(6, 21), (9, 22)]), ([true, true, true, true, true, false, false, false, false, true, false, false], [(5, 22)]), ([true, true, true, true, true, true, true, false, false, false, false, false], [(7, 23), (8, 24), (9, 25)]), ([true, true, true, true, true, true, false, false, false, true, false, false], [(6, 25)]), ([true, true, true, true, true, true, true, true, false, false, false, false], [(8, 26), (9, 27)]), ([true, true, true, true, true, true, true, false, true, false, false, false], [(7, 26), (9, 28)]), ([true, true, true, true, true, true, true, false, false, true, false, false], [(7, 27), (8, 28)]), ([true, true, true, true, true, true, true, true, true, false, false, false], [(9, 29)]), ([true, true, true, true, true, true, true, true, false, true, false, false], [(8, 29), (10, 30)]), ([true, true, true, true, true, true, true, false, true, true, false, false], [(7, 29)]), ([true, true, true, true, true, true, true, true, true, true, false, false], [(10, 31)]), ([true, true, true, true, true, true, true, true, false, true, true, false], [(8, 31)]), ([true, true, true, true, true, true, true, true, true, true, true, false], [(11, 32)]), ([true, true, true, true, true, true, true, true, true, true, true, true], [])] [?_, ?_, ?_, ?_, ?_, ?_, ?_, ?_, ?_, ?_, ?_, ?_, ?_, ?_, ?_, ?_, ?_, ?_, ?_, ?_, ?_, ?_, ?_, ?_, ?_, ?_, ?_, ?_, ?_, ?_, ?_, ?_, ?_] mixed (by kernel_rfl) rfl rfl rfl rfl ?_ ?_ rfl ?_; rotate_left 33)
        | exact MN.nil
        | (refine MN.cons ?_ ?_)
        | exact MG.nil
        | (refine MG.cons rfl rfl ?_ ?_)
        | exact Le.refl
        | (refine Le.st rfl (by repeat (first | exact SubEK.nil | refine SubEK.skip rfl ?_ | refine SubEK.one rfl (by first | exact trivial | exact rfl) ?_)) (by repeat (first | exact SubBK.nil | refine SubBK.skip rfl ?_ | refine SubBK.one rfl ?_)))
        | (refine W.condA (ht := fun hb => ?_) (hf := fun hb => ?_) <;> (try simp at hb) <;> (try (exfalso; first | exact hbad hb | omega))))
      all_goals first
      | exact FinM.ret ResM.auto
      | (exfalso; omega)
      | exact FinM.ret (ResM.tmp rfl rfl (PSub.of_eq (congrArg (fun b => PV.one (Cell.bool b)) (by simp only [Bool.and_eq_true, Bool.or_eq_true, decide_eq_true_iff, true_and]; omega))) ResM.nil)
      | trace_state
    have cx := sgn_cases x
    have hz7 : i64B (7 * sgn x) := by unfold i64B; omega
    have o10 := ofZ_ok 10 (by unfold i64B; omega)
    have o7 := ofZ_ok (7 * sgn x) hz7
    have k10 : okZ 10 := i64_ok (by unfold i64B; omega)
    have k7 := i64_ok hz7
    have m1 := mulZ_ok x 10 ox k10
    have d2 := readF_ok (txtZ x ++ [55]) (by rw [List.length_append]; simp only [List.length_cons, List.length_nil]; omega)
    generalize hT : txtZ x = T at *
    rcases read_snoc ox h1 with ⟨h7, hq⟩ | ⟨h7, hq⟩
    · rw [hT] at hq
      rw [hq] at d2
      have h10 : okZ (x * 10) := okZ.of (by have := h7.lt; omega)
      rw [(full_yes h10).1, (full_yes h10).2] at m1
      have a1 := addZ_ok (x * 10) (7 * sgn x) h10 k7
      rw [(full_yes h7).1, (full_yes h7).2] at a1
      have e2 := sameZ_ok _ _ h7 h7
      rw [decide_eq_true rfl] at e2
      refine GCalls.of_M TYok (qs := [cB true]) [.tmp 4] 132 Tryd.func4 (by kernel_rfl) rfl rfl rfl fun G hG => ?_
      refine W.initA (hw := ?_)
      repeat' (first
        | (refine W.purgeR [(7, [2, 5]), (11, [2, 5, 8, 9, 10]), (15, [2, 5, 8]), (16, [2, 5, 8, 11, 12]), (17, [5, 8, 12, 13, 14])] rfl (by repeat (first | exact PN.nil | apply PN.po rfl | (apply PN.pa; exact rfl; (repeat (first | (apply NR.cons; exact rfl) | exact NR.nil rfl))) | apply PN.a rfl | apply PN.s rfl | apply PN.u rfl | apply PN.m rfl | apply PN.k rfl | apply PN.i rfl | apply PN.skip)) (by repeat (first | exact PB.nil | (apply PB.one; exact rfl; (focus (first | (dsimp only; done) | (dsimp only; exact rfl) | exact rfl)); (focus (first | (dsimp only; done) | (dsimp only; exact rfl) | exact rfl)); exact rfl; (repeat (first | (apply NR.cons; exact rfl) | exact NR.nil rfl))) | apply PB.cons rfl)) ?_)
        | ((first | apply U_ | (apply Ug_; exact rfl; exact rfl) | (apply Ugq_; exact rfl; exact rfl)); (first
    | exact QX.Move TYok
    | exact QX.Asg TYok
    | exact QX.Fld TYok
    | exact QX.Ld TYok
    | exact QX.Bin TYok
    | exact QX.Pick TYok
    | exact QX.Un TYok
    | exact QX.Len TYok
    | exact QX.Ext TYok
    | exact QX.Build TYok
    | (apply Q_callGd hG (h0); exact EvD.auto)
    | (apply Q_callG hG (h0); exact EvL.auto; exact rfl)
    | (apply Q_calld (d0); exact EvD.auto)
    | (apply Q_calld (rv); exact EvD.auto)
    | (apply Q_callGd hG (tv); exact EvD.auto)
    | (apply Q_callG hG (tv); exact EvL.auto; exact rfl)
    | (apply Q_calld (sv); exact EvD.cons Ev.auto PSub.rfl' (EvD.cons Ev.auto zeroSubZ EvD.nil))
    | (apply Q_calld (r1); exact EvD.auto)
    | (apply Q_callGd hG (t1); exact EvD.auto)
    | (apply Q_callG hG (t1); exact EvL.auto; exact rfl)
    | (apply Q_calld (d1); exact EvD.auto)
    | (apply Q_calld (e1); exact EvD.auto)
    | (apply Q_calld (o10); exact EvD.auto)
    | (apply Q_calld (m1); exact EvD.auto)
    | (apply Q_calld (o7); exact EvD.auto)
    | (apply Q_calld (a1); exact EvD.auto)
    | (apply Q_calld (d2); exact EvD.auto)
    | (apply Q_calld (e2); exact EvD.auto)); exact rfl)
        | refine SX.Alloc TYok (h := ?_)
        | refine SX.Store TYok (h := ?_)
        | refine SX.Box TYok (h := ?_)
        | apply RG.nil
        | apply Lex.nil
        | apply Then.n
        | apply Then.r
        | apply Then.x
        | apply InBlock.n
        | apply InBlock.r
        | apply InBlock.hit
        | (apply InBlock.miss; exact rfl)
        | apply W.seq
        | apply W.region
        | apply W.block
        | apply W.skip
        | apply W.ret
        | apply W.exit
        | (apply S_isnil TYok; exact rfl; exact rfl; exact rfl; exact Ev.auto; intro bn hnil)
        | (apply RG.gT; exact rfl; exact rfl; (first | assumption | decide))
        | (apply RG.gF; exact rfl; exact rfl; (first | assumption | decide | (rw [ne_eq, Bool.not_eq_true]; assumption) | (rw [ne_eq, Bool.not_eq_false]; assumption)); exact rfl)
        | (refine W.drawM (id := 15) [([false, false, false, false, false, false, false, false, false], [(0, 1), (1, 2), (6, 3)]), ([true, false, false, false, false, false, false, false, false], [(1, 4), (6, 5)]), ([false, true, false, false, false, false, false, false, false], [(0, 4), (6, 6)]), ([false, false, false, false, false, false, true, false, false], [(0, 5), (1, 6)]), ([true, true, false, false, false, false, false, false, false], [(2, 7), (6, 8)]), ([true, false, false, false, false, false, true, false, false], [(1, 8)]), ([false, true, false, false, false, false, true, false, false], [(0, 8)]), ([true, true, true, false, false, false, false, false, false], [(3, 9), (6, 10)]), ([true, true, false, false, false, false, true, false, false], [(2, 10)]), ([true, true, true, true, false, false, false, false, false], [(4, 11), (5, 12), (6, 13)]), ([true, true, true, false, false, false, true, false, false], [(3, 13)]), ([true, true, true, true, true, false, false, false, false], [(5, 14), (6, 15)]), ([true, true, true, true, false, true, false, false, false], [(4, 14), (6, 16)]), ([true, true, true, true, false, false, true, false, false], [(4, 15), (5, 16)]), ([true, true, true, true, true, true, false, false, false], [(6, 17)]), ([true, true, true, true, true, false, true, false, false], [(5, 17), (7, 18)]), ([true, true, true, true, false, true, true, false, false], [(4, 17)]), ([true, true, true, true, true, true, true, false, false], [(7, 19)]), ([true, true, true, true, true, false, true, true, false], [(5, 19)]), ([true, true, true, true, true, true, true, true, false], [(8, 20)]), ([true, true, true, true, true, true, true, true, true], [])] [?_, ?_, ?_, ?_, ?_, ?_, ?_, ?_, ?_, ?_, ?_, ?_, ?_, ?_, ?_, ?_, ?_, ?_, ?_, ?_, ?_] mixed (by kernel_rfl) rfl rfl rfl rfl ?_ ?_ rfl ?_; rotate_left 21)
        | exact MN.nil
        | (refine MN.cons ?_ ?_)
        | exact MG.nil
        | (refine MG.cons rfl rfl ?_ ?_)
        | exact Le.refl
        | (refine Le.st rfl (by repeat (first | exact SubEK.nil | refine SubEK.skip rfl ?_ | refine SubEK.one rfl (by first | exact trivial | exact rfl) ?_)) (by repeat (first | exact SubBK.nil | refine SubBK.skip rfl ?_ | refine SubBK.one rfl ?_)))
        | (refine W.drawM (id := 16) [([false, false, false, false, false, false, false, false, false, false, false, false], [(0, 1), (1, 2), (9, 3)]), ([true, false, false, false, false, false, false, false, false, false, false, false], [(1, 4), (9, 5)]), ([false, true, false, false, false, false, false, false, false, false, false, false], [(0, 4), (2, 6), (9, 7)]), ([false, false, false, false, false, false, false, false, false, true, false, false], [(0, 5), (1, 7)]), ([true, true, false, false, false, false, false, false, false, false, false, false], [(2, 8), (9, 9)]), ([true, false, false, false, false, false, false, false, false, true, false, false], [(1, 9)]), ([false, true, true, false, false, false, false, false, false, false, false, false], [(0, 8), (3, 10), (9, 11)]), ([false, true, false, false, false, false, false, false, false, true, false, false], [(0, 9), (2, 11)]), ([true, true, true, false, false, false, false, false, false, false, false, false], [(3, 12), (9, 13)]), ([true, true, false, false, false, false, false, false, false, true, false, false], [(2, 13)]), ([false, true, true, true, false, false, false, false, false, false, false, false], [(0, 12), (4, 14), (9, 15)]), ([false, true, true, false, false, false, false, false, false, true, false, false], [(0, 13), (3, 15)]), ([true, true, true, true, false, false, false, false, false, false, false, false], [(4, 16), (9, 17)]), ([true, true, true, false, false, false, false, false, false, true, false, false], [(3, 17)]), ([false, true, true, true, true, false, false, false, false, false, false, false], [(0, 16), (9, 18)]), ([false, true, true, true, false, false, false, false, false, true, false, false], [(0, 17), (4, 18)]), ([true, true, true, true, true, false, false, false, false, false, false, false], [(5, 19), (9, 20)]), ([true, true, true, true, false, false, false, false, false, true, false, false], [(4, 20)]), ([false, true, true, true, true, false, false, false, false, true, false, false], [(0, 20)]), ([true, true, true, true, true, true, false, false, false, false, false, false], [(6, 21), (9, 22)]), ([true, true, true, true, true, false, false, false, false, true, false, false], [(5, 22)]), ([true, true, true, true, true, true, true, false, false, false, false, false], [(7, 23), (8, 24), (9, 25)]), ([true, true, true, true, true, true, false, false, false, true, false, false], [(6, 25)]), ([true, true, true, true, true, true, true, true, false, false, false, false], [(8, 26), (9, 27)]), ([true, true, true, true, true, true, true, false, true, false, false, false], [(7, 26), (9, 28)]), ([true, true, true, true, true, true, true, false, false, true, false, false], [(7, 27), (8, 28)]), ([true, true, true, true, true, true, true, true, true, false, false, false], [(9, 29)]), ([true, true, true, true, true, true, true, true, false, true, false, false], [(8, 29), (10, 30)]), ([true, true, true, true, true, true, true, false, true, true, false, false], [(7, 29)]), ([true, true, true, true, true, true, true, true, true, true, false, false], [(10, 31)]), ([true, true, true, true, true, true, true, true, false, true, true, false], [(8, 31)]), ([true, true, true, true, true, true, true, true, true, true, true, false], [(11, 32)]), ([true, true, true, true, true, true, true, true, true, true, true, true], [])] [?_, ?_, ?_, ?_, ?_, ?_, ?_, ?_, ?_, ?_, ?_, ?_, ?_, ?_, ?_, ?_, ?_, ?_, ?_, ?_, ?_, ?_, ?_, ?_, ?_, ?_, ?_, ?_, ?_, ?_, ?_, ?_, ?_] mixed (by kernel_rfl) rfl rfl rfl rfl ?_ ?_ rfl ?_; rotate_left 33)
        | exact MN.nil
        | (refine MN.cons ?_ ?_)
        | exact MG.nil
        | (refine MG.cons rfl rfl ?_ ?_)
        | exact Le.refl
        | (refine Le.st rfl (by repeat (first | exact SubEK.nil | refine SubEK.skip rfl ?_ | refine SubEK.one rfl (by first | exact trivial | exact rfl) ?_)) (by repeat (first | exact SubBK.nil | refine SubBK.skip rfl ?_ | refine SubBK.one rfl ?_)))
        | (refine W.condA (ht := fun hb => ?_) (hf := fun hb => ?_) <;> (try simp at hb) <;> (try (exfalso; first | exact hbad hb | omega))))
      all_goals first
      | exact FinM.ret ResM.auto
      | (exfalso; omega)
      | exact FinM.ret (ResM.tmp rfl rfl (PSub.of_eq (congrArg (fun b => PV.one (Cell.bool b)) (by simp only [Bool.and_eq_true, Bool.or_eq_true, decide_eq_true_iff, true_and]; omega))) ResM.nil)
      | trace_state
    · rw [hT] at hq
      rw [hq] at d2
      by_cases h10 : okZ (x * 10)
      · rw [(full_yes h10).1, (full_yes h10).2] at m1
        have a1 := addZ_ok (x * 10) (7 * sgn x) h10 k7
        rw [(full_no h7).2] at a1
        generalize fullZ (x * 10 + 7 * sgn x) = w at *
        refine GCalls.of_M TYok (qs := [cB true]) [.tmp 4] 132 Tryd.func4 (by kernel_rfl) rfl rfl rfl fun G hG => ?_
        refine W.initA (hw := ?_)
        repeat' (first
          | (refine W.purgeR [(7, [2, 5]), (11, [2, 5, 8, 9, 10]), (15, [2, 5, 8]), (16, [2, 5, 8, 11, 12]), (17, [5, 8, 12, 13, 14])] rfl (by repeat (first | exact PN.nil | apply PN.po rfl | (apply PN.pa; exact rfl; (repeat (first | (apply NR.cons; exact rfl) | exact NR.nil rfl))) | apply PN.a rfl | apply PN.s rfl | apply PN.u rfl | apply PN.m rfl | apply PN.k rfl | apply PN.i rfl | apply PN.skip)) (by repeat (first | exact PB.nil | (apply PB.one; exact rfl; (focus (first | (dsimp only; done) | (dsimp only; exact rfl) | exact rfl)); (focus (first | (dsimp only; done) | (dsimp only; exact rfl) | exact rfl)); exact rfl; (repeat (first | (apply NR.cons; exact rfl) | exact NR.nil rfl))) | apply PB.cons rfl)) ?_)
          | ((first | apply U_ | (apply Ug_; exact rfl; exact rfl) | (apply Ugq_; exact rfl; exact rfl)); (first
    | exact QX.Move TYok
    | exact QX.Asg TYok
    | exact QX.Fld TYok
    | exact QX.Ld TYok
    | exact QX.Bin TYok
    | exact QX.Pick TYok
    | exact QX.Un TYok
    | exact QX.Len TYok
    | exact QX.Ext TYok
    | exact QX.Build TYok
    | (apply Q_callGd hG (h0); exact EvD.auto)
    | (apply Q_callG hG (h0); exact EvL.auto; exact rfl)
    | (apply Q_calld (d0); exact EvD.auto)
    | (apply Q_calld (rv); exact EvD.auto)
    | (apply Q_callGd hG (tv); exact EvD.auto)
    | (apply Q_callG hG (tv); exact EvL.auto; exact rfl)
    | (apply Q_calld (sv); exact EvD.cons Ev.auto PSub.rfl' (EvD.cons Ev.auto zeroSubZ EvD.nil))
    | (apply Q_calld (r1); exact EvD.auto)
    | (apply Q_callGd hG (t1); exact EvD.auto)
    | (apply Q_callG hG (t1); exact EvL.auto; exact rfl)
    | (apply Q_calld (d1); exact EvD.auto)
    | (apply Q_calld (e1); exact EvD.auto)
    | (apply Q_calld (o10); exact EvD.auto)
    | (apply Q_calld (m1); exact EvD.auto)
    | (apply Q_calld (o7); exact EvD.auto)
    | (apply Q_calld (a1); exact EvD.auto)
    | (apply Q_calld (d2); exact EvD.auto)); exact rfl)
          | refine SX.Alloc TYok (h := ?_)
          | refine SX.Store TYok (h := ?_)
          | refine SX.Box TYok (h := ?_)
          | apply RG.nil
          | apply Lex.nil
          | apply Then.n
          | apply Then.r
          | apply Then.x
          | apply InBlock.n
          | apply InBlock.r
          | apply InBlock.hit
          | (apply InBlock.miss; exact rfl)
          | apply W.seq
          | apply W.region
          | apply W.block
          | apply W.skip
          | apply W.ret
          | apply W.exit
          | (apply S_isnil TYok; exact rfl; exact rfl; exact rfl; exact Ev.auto; intro bn hnil)
          | (apply RG.gT; exact rfl; exact rfl; (first | assumption | decide))
          | (apply RG.gF; exact rfl; exact rfl; (first | assumption | decide | (rw [ne_eq, Bool.not_eq_true]; assumption) | (rw [ne_eq, Bool.not_eq_false]; assumption)); exact rfl)
          | (refine W.drawM (id := 15) [([false, false, false, false, false, false, false, false, false], [(0, 1), (1, 2), (6, 3)]), ([true, false, false, false, false, false, false, false, false], [(1, 4), (6, 5)]), ([false, true, false, false, false, false, false, false, false], [(0, 4), (6, 6)]), ([false, false, false, false, false, false, true, false, false], [(0, 5), (1, 6)]), ([true, true, false, false, false, false, false, false, false], [(2, 7), (6, 8)]), ([true, false, false, false, false, false, true, false, false], [(1, 8)]), ([false, true, false, false, false, false, true, false, false], [(0, 8)]), ([true, true, true, false, false, false, false, false, false], [(3, 9), (6, 10)]), ([true, true, false, false, false, false, true, false, false], [(2, 10)]), ([true, true, true, true, false, false, false, false, false], [(4, 11), (5, 12), (6, 13)]), ([true, true, true, false, false, false, true, false, false], [(3, 13)]), ([true, true, true, true, true, false, false, false, false], [(5, 14), (6, 15)]), ([true, true, true, true, false, true, false, false, false], [(4, 14), (6, 16)]), ([true, true, true, true, false, false, true, false, false], [(4, 15), (5, 16)]), ([true, true, true, true, true, true, false, false, false], [(6, 17)]), ([true, true, true, true, true, false, true, false, false], [(5, 17), (7, 18)]), ([true, true, true, true, false, true, true, false, false], [(4, 17)]), ([true, true, true, true, true, true, true, false, false], [(7, 19)]), ([true, true, true, true, true, false, true, true, false], [(5, 19)]), ([true, true, true, true, true, true, true, true, false], [(8, 20)]), ([true, true, true, true, true, true, true, true, true], [])] [?_, ?_, ?_, ?_, ?_, ?_, ?_, ?_, ?_, ?_, ?_, ?_, ?_, ?_, ?_, ?_, ?_, ?_, ?_, ?_, ?_] mixed (by kernel_rfl) rfl rfl rfl rfl ?_ ?_ rfl ?_; rotate_left 21)
          | exact MN.nil
          | (refine MN.cons ?_ ?_)
          | exact MG.nil
          | (refine MG.cons rfl rfl ?_ ?_)
          | exact Le.refl
          | (refine Le.st rfl (by repeat (first | exact SubEK.nil | refine SubEK.skip rfl ?_ | refine SubEK.one rfl (by first | exact trivial | exact rfl) ?_)) (by repeat (first | exact SubBK.nil | refine SubBK.skip rfl ?_ | refine SubBK.one rfl ?_)))
          | (refine W.drawM (id := 16) [([false, false, false, false, false, false, false, false, false, false, false, false], [(0, 1), (1, 2), (9, 3)]), ([true, false, false, false, false, false, false, false, false, false, false, false], [(1, 4), (9, 5)]), ([false, true, false, false, false, false, false, false, false, false, false, false], [(0, 4), (2, 6), (9, 7)]), ([false, false, false, false, false, false, false, false, false, true, false, false], [(0, 5), (1, 7)]), ([true, true, false, false, false, false, false, false, false, false, false, false], [(2, 8), (9, 9)]), ([true, false, false, false, false, false, false, false, false, true, false, false], [(1, 9)]), ([false, true, true, false, false, false, false, false, false, false, false, false], [(0, 8), (3, 10), (9, 11)]), ([false, true, false, false, false, false, false, false, false, true, false, false], [(0, 9), (2, 11)]), ([true, true, true, false, false, false, false, false, false, false, false, false], [(3, 12), (9, 13)]), ([true, true, false, false, false, false, false, false, false, true, false, false], [(2, 13)]), ([false, true, true, true, false, false, false, false, false, false, false, false], [(0, 12), (4, 14), (9, 15)]), ([false, true, true, false, false, false, false, false, false, true, false, false], [(0, 13), (3, 15)]), ([true, true, true, true, false, false, false, false, false, false, false, false], [(4, 16), (9, 17)]), ([true, true, true, false, false, false, false, false, false, true, false, false], [(3, 17)]), ([false, true, true, true, true, false, false, false, false, false, false, false], [(0, 16), (9, 18)]), ([false, true, true, true, false, false, false, false, false, true, false, false], [(0, 17), (4, 18)]), ([true, true, true, true, true, false, false, false, false, false, false, false], [(5, 19), (9, 20)]), ([true, true, true, true, false, false, false, false, false, true, false, false], [(4, 20)]), ([false, true, true, true, true, false, false, false, false, true, false, false], [(0, 20)]), ([true, true, true, true, true, true, false, false, false, false, false, false], [(6, 21), (9, 22)]), ([true, true, true, true, true, false, false, false, false, true, false, false], [(5, 22)]), ([true, true, true, true, true, true, true, false, false, false, false, false], [(7, 23), (8, 24), (9, 25)]), ([true, true, true, true, true, true, false, false, false, true, false, false], [(6, 25)]), ([true, true, true, true, true, true, true, true, false, false, false, false], [(8, 26), (9, 27)]), ([true, true, true, true, true, true, true, false, true, false, false, false], [(7, 26), (9, 28)]), ([true, true, true, true, true, true, true, false, false, true, false, false], [(7, 27), (8, 28)]), ([true, true, true, true, true, true, true, true, true, false, false, false], [(9, 29)]), ([true, true, true, true, true, true, true, true, false, true, false, false], [(8, 29), (10, 30)]), ([true, true, true, true, true, true, true, false, true, true, false, false], [(7, 29)]), ([true, true, true, true, true, true, true, true, true, true, false, false], [(10, 31)]), ([true, true, true, true, true, true, true, true, false, true, true, false], [(8, 31)]), ([true, true, true, true, true, true, true, true, true, true, true, false], [(11, 32)]), ([true, true, true, true, true, true, true, true, true, true, true, true], [])] [?_, ?_, ?_, ?_, ?_, ?_, ?_, ?_, ?_, ?_, ?_, ?_, ?_, ?_, ?_, ?_, ?_, ?_, ?_, ?_, ?_, ?_, ?_, ?_, ?_, ?_, ?_, ?_, ?_, ?_, ?_, ?_, ?_] mixed (by kernel_rfl) rfl rfl rfl rfl ?_ ?_ rfl ?_; rotate_left 33)
          | exact MN.nil
          | (refine MN.cons ?_ ?_)
          | exact MG.nil
          | (refine MG.cons rfl rfl ?_ ?_)
          | exact Le.refl
          | (refine Le.st rfl (by repeat (first | exact SubEK.nil | refine SubEK.skip rfl ?_ | refine SubEK.one rfl (by first | exact trivial | exact rfl) ?_)) (by repeat (first | exact SubBK.nil | refine SubBK.skip rfl ?_ | refine SubBK.one rfl ?_)))
          | (refine W.condA (ht := fun hb => ?_) (hf := fun hb => ?_) <;> (try simp at hb) <;> (try (exfalso; first | exact hbad hb | omega))))
        all_goals first
      | exact FinM.ret ResM.auto
      | (exfalso; omega)
      | exact FinM.ret (ResM.tmp rfl rfl (PSub.of_eq (congrArg (fun b => PV.one (Cell.bool b)) (by simp only [Bool.and_eq_true, Bool.or_eq_true, decide_eq_true_iff, true_and]; omega))) ResM.nil)
      | trace_state
      · rw [(full_no h10).1, (full_no h10).2] at m1
        have a1 := addZ_ok 0 (7 * sgn x) okZ.zero k7
        generalize fullZ (0 + 7 * sgn x) = w at *
        generalize fullE (0 + 7 * sgn x) = w2 at *
        refine GCalls.of_M TYok (qs := [cB true]) [.tmp 4] 132 Tryd.func4 (by kernel_rfl) rfl rfl rfl fun G hG => ?_
        refine W.initA (hw := ?_)
        repeat' (first
          | (refine W.purgeR [(7, [2, 5]), (11, [2, 5, 8, 9, 10]), (15, [2, 5, 8]), (16, [2, 5, 8, 11, 12]), (17, [5, 8, 12, 13, 14])] rfl (by repeat (first | exact PN.nil | apply PN.po rfl | (apply PN.pa; exact rfl; (repeat (first | (apply NR.cons; exact rfl) | exact NR.nil rfl))) | apply PN.a rfl | apply PN.s rfl | apply PN.u rfl | apply PN.m rfl | apply PN.k rfl | apply PN.i rfl | apply PN.skip)) (by repeat (first | exact PB.nil | (apply PB.one; exact rfl; (focus (first | (dsimp only; done) | (dsimp only; exact rfl) | exact rfl)); (focus (first | (dsimp only; done) | (dsimp only; exact rfl) | exact rfl)); exact rfl; (repeat (first | (apply NR.cons; exact rfl) | exact NR.nil rfl))) | apply PB.cons rfl)) ?_)
          | ((first | apply U_ | (apply Ug_; exact rfl; exact rfl) | (apply Ugq_; exact rfl; exact rfl)); (first
    | exact QX.Move TYok
    | exact QX.Asg TYok
    | exact QX.Fld TYok
    | exact QX.Ld TYok
    | exact QX.Bin TYok
    | exact QX.Pick TYok
    | exact QX.Un TYok
    | exact QX.Len TYok
    | exact QX.Ext TYok
    | exact QX.Build TYok
    | (apply Q_callGd hG (h0); exact EvD.auto)
    | (apply Q_callG hG (h0); exact EvL.auto; exact rfl)
    | (apply Q_calld (d0); exact EvD.auto)
    | (apply Q_calld (rv); exact EvD.auto)
    | (apply Q_callGd hG (tv); exact EvD.auto)
    | (apply Q_callG hG (tv); exact EvL.auto; exact rfl)
    | (apply Q_calld (sv); exact EvD.cons Ev.auto PSub.rfl' (EvD.cons Ev.auto zeroSubZ EvD.nil))
    | (apply Q_calld (r1); exact EvD.auto)
    | (apply Q_callGd hG (t1); exact EvD.auto)
    | (apply Q_callG hG (t1); exact EvL.auto; exact rfl)
    | (apply Q_calld (d1); exact EvD.auto)
    | (apply Q_calld (e1); exact EvD.auto)
    | (apply Q_calld (o10); exact EvD.auto)
    | (apply Q_calld (m1); exact EvD.auto)
    | (apply Q_calld (o7); exact EvD.auto)
    | (apply Q_calld (a1); exact EvD.auto)
    | (apply Q_calld (d2); exact EvD.auto)); exact rfl)
          | refine SX.Alloc TYok (h := ?_)
          | refine SX.Store TYok (h := ?_)
          | refine SX.Box TYok (h := ?_)
          | apply RG.nil
          | apply Lex.nil
          | apply Then.n
          | apply Then.r
          | apply Then.x
          | apply InBlock.n
          | apply InBlock.r
          | apply InBlock.hit
          | (apply InBlock.miss; exact rfl)
          | apply W.seq
          | apply W.region
          | apply W.block
          | apply W.skip
          | apply W.ret
          | apply W.exit
          | (apply S_isnil TYok; exact rfl; exact rfl; exact rfl; exact Ev.auto; intro bn hnil)
          | (apply RG.gT; exact rfl; exact rfl; (first | assumption | decide))
          | (apply RG.gF; exact rfl; exact rfl; (first | assumption | decide | (rw [ne_eq, Bool.not_eq_true]; assumption) | (rw [ne_eq, Bool.not_eq_false]; assumption)); exact rfl)
          | (refine W.drawM (id := 15) [([false, false, false, false, false, false, false, false, false], [(0, 1), (1, 2), (6, 3)]), ([true, false, false, false, false, false, false, false, false], [(1, 4), (6, 5)]), ([false, true, false, false, false, false, false, false, false], [(0, 4), (6, 6)]), ([false, false, false, false, false, false, true, false, false], [(0, 5), (1, 6)]), ([true, true, false, false, false, false, false, false, false], [(2, 7), (6, 8)]), ([true, false, false, false, false, false, true, false, false], [(1, 8)]), ([false, true, false, false, false, false, true, false, false], [(0, 8)]), ([true, true, true, false, false, false, false, false, false], [(3, 9), (6, 10)]), ([true, true, false, false, false, false, true, false, false], [(2, 10)]), ([true, true, true, true, false, false, false, false, false], [(4, 11), (5, 12), (6, 13)]), ([true, true, true, false, false, false, true, false, false], [(3, 13)]), ([true, true, true, true, true, false, false, false, false], [(5, 14), (6, 15)]), ([true, true, true, true, false, true, false, false, false], [(4, 14), (6, 16)]), ([true, true, true, true, false, false, true, false, false], [(4, 15), (5, 16)]), ([true, true, true, true, true, true, false, false, false], [(6, 17)]), ([true, true, true, true, true, false, true, false, false], [(5, 17), (7, 18)]), ([true, true, true, true, false, true, true, false, false], [(4, 17)]), ([true, true, true, true, true, true, true, false, false], [(7, 19)]), ([true, true, true, true, true, false, true, true, false], [(5, 19)]), ([true, true, true, true, true, true, true, true, false], [(8, 20)]), ([true, true, true, true, true, true, true, true, true], [])] [?_, ?_, ?_, ?_, ?_, ?_, ?_, ?_, ?_, ?_, ?_, ?_, ?_, ?_, ?_, ?_, ?_, ?_, ?_, ?_, ?_] mixed (by kernel_rfl) rfl rfl rfl rfl ?_ ?_ rfl ?_; rotate_left 21)
          | exact MN.nil
          | (refine MN.cons ?_ ?_)
          | exact MG.nil
          | (refine MG.cons rfl rfl ?_ ?_)
          | exact Le.refl
          | (refine Le.st rfl (by repeat (first | exact SubEK.nil | refine SubEK.skip rfl ?_ | refine SubEK.one rfl (by first | exact trivial | exact rfl) ?_)) (by repeat (first | exact SubBK.nil | refine SubBK.skip rfl ?_ | refine SubBK.one rfl ?_)))
          | (refine W.drawM (id := 16) [([false, false, false, false, false, false, false, false, false, false, false, false], [(0, 1), (1, 2), (9, 3)]), ([true, false, false, false, false, false, false, false, false, false, false, false], [(1, 4), (9, 5)]), ([false, true, false, false, false, false, false, false, false, false, false, false], [(0, 4), (2, 6), (9, 7)]), ([false, false, false, false, false, false, false, false, false, true, false, false], [(0, 5), (1, 7)]), ([true, true, false, false, false, false, false, false, false, false, false, false], [(2, 8), (9, 9)]), ([true, false, false, false, false, false, false, false, false, true, false, false], [(1, 9)]), ([false, true, true, false, false, false, false, false, false, false, false, false], [(0, 8), (3, 10), (9, 11)]), ([false, true, false, false, false, false, false, false, false, true, false, false], [(0, 9), (2, 11)]), ([true, true, true, false, false, false, false, false, false, false, false, false], [(3, 12), (9, 13)]), ([true, true, false, false, false, false, false, false, false, true, false, false], [(2, 13)]), ([false, true, true, true, false, false, false, false, false, false, false, false], [(0, 12), (4, 14), (9, 15)]), ([false, true, true, false, false, false, false, false, false, true, false, false], [(0, 13), (3, 15)]), ([true, true, true, true, false, false, false, false, false, false, false, false], [(4, 16), (9, 17)]), ([true, true, true, false, false, false, false, false, false, true, false, false], [(3, 17)]), ([false, true, true, true, true, false, false, false, false, false, false, false], [(0, 16), (9, 18)]), ([false, true, true, true, false, false, false, false, false, true, false, false], [(0, 17), (4, 18)]), ([true, true, true, true, true, false, false, false, false, false, false, false], [(5, 19), (9, 20)]), ([true, true, true, true, false, false, false, false, false, true, false, false], [(4, 20)]), ([false, true, true, true, true, false, false, false, false, true, false, false], [(0, 20)]), ([true, true, true, true, true, true, false, false, false, false, false, false], [(6, 21), (9, 22)]), ([true, true, true, true, true, false, false, false, false, true, false, false], [(5, 22)]), ([true, true, true, true, true, true, true, false, false, false, false, false], [(7, 23), (8, 24), (9, 25)]), ([true, true, true, true, true, true, false, false, false, true, false, false], [(6, 25)]), ([true, true, true, true, true, true, true, true, false, false, false, false], [(8, 26), (9, 27)]), ([true, true, true, true, true, true, true, false, true, false, false, false], [(7, 26), (9, 28)]), ([true, true, true, true, true, true, true, false, false, true, false, false], [(7, 27), (8, 28)]), ([true, true, true, true, true, true, true, true, true, false, false, false], [(9, 29)]), ([true, true, true, true, true, true, true, true, false, true, false, false], [(8, 29), (10, 30)]), ([true, true, true, true, true, true, true, false, true, true, false, false], [(7, 29)]), ([true, true, true, true, true, true, true, true, true, true, false, false], [(10, 31)]), ([true, true, true, true, true, true, true, true, false, true, true, false], [(8, 31)]), ([true, true, true, true, true, true, true, true, true, true, true, false], [(11, 32)]), ([true, true, true, true, true, true, true, true, true, true, true, true], [])] [?_, ?_, ?_, ?_, ?_, ?_, ?_, ?_, ?_, ?_, ?_, ?_, ?_, ?_, ?_, ?_, ?_, ?_, ?_, ?_, ?_, ?_, ?_, ?_, ?_, ?_, ?_, ?_, ?_, ?_, ?_, ?_, ?_] mixed (by kernel_rfl) rfl rfl rfl rfl ?_ ?_ rfl ?_; rotate_left 33)
          | exact MN.nil
          | (refine MN.cons ?_ ?_)
          | exact MG.nil
          | (refine MG.cons rfl rfl ?_ ?_)
          | exact Le.refl
          | (refine Le.st rfl (by repeat (first | exact SubEK.nil | refine SubEK.skip rfl ?_ | refine SubEK.one rfl (by first | exact trivial | exact rfl) ?_)) (by repeat (first | exact SubBK.nil | refine SubBK.skip rfl ?_ | refine SubBK.one rfl ?_)))
          | (refine W.condA (ht := fun hb => ?_) (hf := fun hb => ?_) <;> (try simp at hb) <;> (try (exfalso; first | exact hbad hb | omega))))
        all_goals first
      | exact FinM.ret ResM.auto
      | (exfalso; omega)
      | exact FinM.ret (ResM.tmp rfl rfl (PSub.of_eq (congrArg (fun b => PV.one (Cell.bool b)) (by simp only [Bool.and_eq_true, Bool.or_eq_true, decide_eq_true_iff, true_and]; omega))) ResM.nil)
      | trace_state
end Go.Proofs.YtldgkgfkdipdeaaDoor
