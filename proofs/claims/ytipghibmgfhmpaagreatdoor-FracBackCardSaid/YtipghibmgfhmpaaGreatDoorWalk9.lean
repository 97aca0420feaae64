/-
  Big integers and ints.
-/
import Derived.Test.YtipghibmgfhmpaaGreatDoorWalk8
import Derived.Test.YtipghibmgfhmpaaGreatDoorLfLitD
set_option linter.unusedVariables false
set_option linter.unusedSimpArgs false
set_option maxHeartbeats 8000000
namespace Go.Proofs.YtipghibmgfhmpaaGreatDoor
open Lf Go
attribute [local irreducible] PureOp EffOp Ev RG W Then InBlock Lf.Fin nth App InitE Pick SubE SubF SubG EvL EvD EvP EvR ResL Lf.Lex SubR SubBR RA RAll EvC FinO FinM ResM FinB ResD FinS val pw digs trimL

def i64B (x : Int) : Prop := -9223372036854775808 ≤ x ∧ x ≤ 9223372036854775807
structure OfI (x : Int) (l : List Int) (u : Int) : Prop where
  dig : Dig l
  u0 : 0 ≤ u
  eq : mag x = val l + pw l.length * u
theorem i64_mag {x : Int} (h : i64B x) : mag x ≤ 9223372036854775808 := by
  have := sgn_cases x
  unfold i64B at h; omega
theorem i64_ok {x : Int} (h : i64B x) : okZ x := by
  have h1 := i64_mag h
  have h2 : pw 4 = 1208925819614629174706176 := by simp [pw]
  have h3 := pw_mono (show 4 ≤ 60 by omega)
  unfold okZ; omega
theorem OfI.short {x u : Int} {l : List Int} (h : OfI x l u) (hx : i64B x) : (0 < u → l.length ≤ 3) ∧ u ≤ 9223372036854775808 := by
  have h1 := i64_mag hx
  have h2 := h.eq
  have h3 := val_lo h.dig
  have hp := pw_pos l.length
  have h5 : 1 * u ≤ pw l.length * u := Int.mul_le_mul_of_nonneg_right (by omega) h.u0
  refine ⟨fun hu => ?_, by omega⟩
  have h4 : pw l.length * 1 ≤ pw l.length * u := Int.mul_le_mul_of_nonneg_left (by omega) (by omega)
  have h6 : pw 4 = 1208925819614629174706176 := by simp [pw]
  have := pw_inj (show pw l.length < pw 4 by omega)
  omega
theorem OfI.step {x u : Int} {l : List Int} (h : OfI x l u) : OfI x (l ++ [u % 1048576]) (u / 1048576) := by
  have h1 := h.u0
  refine ⟨h.dig.app (Dig.cons (by omega) Dig.nil), by omega, ?_⟩
  have h2 := h.eq
  rw [val_app, val_one, List.length_append, List.length_singleton, pw_succ]
  have h3 := Int.emod_add_mul_ediv u 1048576
  generalize u % 1048576 = r at *
  generalize u / 1048576 = q at *
  subst h3
  rw [h2]; grind
theorem OfI.done {x : Int} {l : List Int} (h : OfI x l 0) : val l = mag x := by rw [h.eq]; omega
theorem ofZ_walk (x : Int) (hx : i64B x) (s : Int) (hs : (s = 1 ∧ 0 ≤ x) ∨ (s = -1 ∧ x < 0)) : ACalls Tryz.prog 37 [cI x] (.pv (zB x)) := by
  have hx' := hx
  unfold i64B at hx'
  have c1 := sgn_cases x
  have key : ∀ l : List Int, OfI x l 0 → l.length ≤ 10 → ACalls Tryz.prog 64 [cI s, slI l] (.pv (zB x)) := fun l hl hll =>
    signed_ok s l hl.dig (by omega) x (by omega) (by rw [hl.done]; rcases hs with h | h <;> rw [h.1] <;> omega)
  have e1 : 0 ≤ x → IntKind.u64.wrap x = mag x := fun h => by rw [wrap_u64']; omega
  have e2 : x < 0 → IntKind.u64.wrap (0 - IntKind.u64.wrap x) = mag x := fun h => by rw [wrap_u64', wrap_u64']; omega
  refine ACalls.of_M TYok (qs := [zB x]) [.cell 2 24] 25 Tryz.func37 (by kernel_rfl) rfl rfl rfl fun G => ?_
  refine W.initA (hw := ?_)
  repeat' (first
    | ((first | apply U_); (first
    | (apply Q_or20; exact Ev.auto; exact Ev.auto; (intro hg; first | omega | (simp; omega) | (simp at hg; simp; omega)))
    | (apply Q_shl20; exact Ev.auto; (intro hg; first | omega | (simp; omega) | (simp at hg; simp; omega)))
    | (apply Q_shr20; exact Ev.auto)
    | (apply Q_and1; exact Ev.auto)
    | (apply Q_mask20; exact Ev.auto)
    | exact QX.Move TYok
    | exact QX.Asg TYok
    | exact QX.Bin TYok
    | exact QX.Un TYok
    | exact QX.Conv TYok
    | (apply Q_negw; exact Ev.auto)); exact rfl)
    | refine SX.Alloc TYok (h := ?_)
    | refine SX.Store TYok (h := ?_)
    | refine SX.Lit TYok (h := ?_)
    | refine SX.App TYok (h := ?_)
    | apply RG.nil
    | apply Lex.nil
    | apply Then.n
    | apply Then.r
    | apply Then.x
    | apply InBlock.n
    | apply InBlock.r
    | apply InBlock.hit
    | (apply InBlock.miss; exact rfl)
    | apply W.seq
    | apply W.region
    | apply W.block
    | apply W.skip
    | apply W.ret
    | apply W.exit
    | (refine W.condA (ht := fun hb => ?_) (hf := fun hb => ?_) <;> (try simp at hb) <;> (try (exfalso; omega))))
  · obtain rfl : s = -1 := by omega
    rw [e2 hb]
    have m0 := i64_mag hx
    have m1 := mag_nn x
    refine W.weaken (Le.nilOwn (t := 5) (n := 21) (E := 3) (sz := 1) rfl) ?_
    apply W.loopP (σ := Int × List Int) 25 [2] (fun (u, l) => OfI x l u ∧ l.length ≤ 4) (fun (u, l) => [(3, vI (-1)), (4, (True, .pv (.one (.int .u64 u)))), (5, (True, .slc 21))]) (fun (u, l) => [(2, ⟨24, 2, [[.int .i64 0, .slnil]]⟩), (21, ⟨3, 1, l.map encI⟩)]) (fun (u, l) => u.toNat) ((mag x, []))
    case hp => repeat (first | exact Pick.nil | apply Pick.cons rfl)
    case h0 =>
      refine ⟨⟨⟨Dig.nil, m1, by simp [val, pw]⟩, by simp⟩, ?_⟩
      exact Le.auto
    case round =>
      rintro ⟨u, l⟩ ⟨g1, gl⟩
      dsimp only at g1 gl ⊢
      have g2 := g1.short hx
      have g3 := g1.u0
      apply W.norm (by repeat (first | exact App.nil | apply App.cons))
      dsimp only [AV.ment, cond_false]
      by_cases hu : 0 < u
      · have g4 := g2.1 hu
        repeat' (first
          | ((first | apply U_); (first
    | (apply Q_shr20u; exact Ev.auto)
    | (apply Q_mask20u; exact Ev.auto; omega)
    | exact QX.Move TYok
    | exact QX.Asg TYok
    | exact QX.Bin TYok
    | exact QX.Un TYok
    | exact QX.Conv TYok); exact rfl)
          | refine SX.Alloc TYok (h := ?_)
          | refine SX.Store TYok (h := ?_)
          | refine SX.Lit TYok (h := ?_)
          | refine SX.App TYok (h := ?_)
          | apply RG.nil
          | apply Lex.nil
          | apply Then.n
          | apply Then.r
          | apply Then.x
          | apply InBlock.n
          | apply InBlock.r
          | apply InBlock.hit
          | (apply InBlock.miss; exact rfl)
          | apply W.seq
          | apply W.region
          | apply W.block
          | apply W.skip
          | apply W.ret
          | apply W.exit
          | (refine W.condA (ht := fun hb => ?_) (hf := fun hb => ?_) <;> (try simp at hb) <;> (try (exfalso; omega))))
        refine ⟨(u / 1048576, l ++ [u % 1048576]), ⟨g1.step, by simp; omega⟩, ?_, by (try simp only); omega⟩
        exact Le.auto
      · obtain rfl : u = 0 := by omega
        have g5 : l.length ≤ 10 := by omega
        have k1 := key l g1 g5
        repeat' (first
          | (refine W.weaken (Le.freeze1 (m := 21) rfl) ?_; apply W.region (id := 8))
          | ((first | apply U_); (first
    | exact QX.Move TYok
    | exact QX.Asg TYok
    | exact QX.Bin TYok
    | exact QX.Un TYok
    | exact QX.Conv TYok
    | (apply Q_calld (k1); exact EvD.auto)); exact rfl)
          | refine SX.Alloc TYok (h := ?_)
          | refine SX.Store TYok (h := ?_)
          | refine SX.Lit TYok (h := ?_)
          | refine SX.App TYok (h := ?_)
          | apply RG.nil
          | apply Lex.nil
          | apply Then.n
          | apply Then.r
          | apply Then.x
          | apply InBlock.n
          | apply InBlock.r
          | apply InBlock.hit
          | (apply InBlock.miss; exact rfl)
          | apply W.seq
          | apply W.region
          | apply W.block
          | apply W.skip
          | apply W.ret
          | apply W.exit
          | (refine W.condA (ht := fun hb => ?_) (hf := fun hb => ?_) <;> (try simp at hb) <;> (try (exfalso; omega))))
        exact FinM.ret ResM.auto
  · obtain rfl : s = 1 := by omega
    rw [e1 hb]
    have m0 := i64_mag hx
    have m1 := mag_nn x
    refine W.weaken (Le.nilOwn (t := 5) (n := 21) (E := 3) (sz := 1) rfl) ?_
    apply W.loopP (σ := Int × List Int) 25 [2] (fun (u, l) => OfI x l u ∧ l.length ≤ 4) (fun (u, l) => [(3, vI (1)), (4, (True, .pv (.one (.int .u64 u)))), (5, (True, .slc 21))]) (fun (u, l) => [(2, ⟨24, 2, [[.int .i64 0, .slnil]]⟩), (21, ⟨3, 1, l.map encI⟩)]) (fun (u, l) => u.toNat) ((mag x, []))
    case hp => repeat (first | exact Pick.nil | apply Pick.cons rfl)
    case h0 =>
      refine ⟨⟨⟨Dig.nil, m1, by simp [val, pw]⟩, by simp⟩, ?_⟩
      exact Le.auto
    case round =>
      rintro ⟨u, l⟩ ⟨g1, gl⟩
      dsimp only at g1 gl ⊢
      have g2 := g1.short hx
      have g3 := g1.u0
      apply W.norm (by repeat (first | exact App.nil | apply App.cons))
      dsimp only [AV.ment, cond_false]
      by_cases hu : 0 < u
      · have g4 := g2.1 hu
        repeat' (first
          | ((first | apply U_); (first
    | (apply Q_shr20u; exact Ev.auto)
    | (apply Q_mask20u; exact Ev.auto; omega)
    | exact QX.Move TYok
    | exact QX.Asg TYok
    | exact QX.Bin TYok
    | exact QX.Un TYok
    | exact QX.Conv TYok); exact rfl)
          | refine SX.Alloc TYok (h := ?_)
          | refine SX.Store TYok (h := ?_)
          | refine SX.Lit TYok (h := ?_)
          | refine SX.App TYok (h := ?_)
          | apply RG.nil
          | apply Lex.nil
          | apply Then.n
          | apply Then.r
          | apply Then.x
          | apply InBlock.n
          | apply InBlock.r
          | apply InBlock.hit
          | (apply InBlock.miss; exact rfl)
          | apply W.seq
          | apply W.region
          | apply W.block
          | apply W.skip
          | apply W.ret
          | apply W.exit
          | (refine W.condA (ht := fun hb => ?_) (hf := fun hb => ?_) <;> (try simp at hb) <;> (try (exfalso; omega))))
        refine ⟨(u / 1048576, l ++ [u % 1048576]), ⟨g1.step, by simp; omega⟩, ?_, by (try simp only); omega⟩
        exact Le.auto
      · obtain rfl : u = 0 := by omega
        have g5 : l.length ≤ 10 := by omega
        have k1 := key l g1 g5
        repeat' (first
          | (refine W.weaken (Le.freeze1 (m := 21) rfl) ?_; apply W.region (id := 8))
          | ((first | apply U_); (first
    | exact QX.Move TYok
    | exact QX.Asg TYok
    | exact QX.Bin TYok
    | exact QX.Un TYok
    | exact QX.Conv TYok
    | (apply Q_calld (k1); exact EvD.auto)); exact rfl)
          | refine SX.Alloc TYok (h := ?_)
          | refine SX.Store TYok (h := ?_)
          | refine SX.Lit TYok (h := ?_)
          | refine SX.App TYok (h := ?_)
          | apply RG.nil
          | apply Lex.nil
          | apply Then.n
          | apply Then.r
          | apply Then.x
          | apply InBlock.n
          | apply InBlock.r
          | apply InBlock.hit
          | (apply InBlock.miss; exact rfl)
          | apply W.seq
          | apply W.region
          | apply W.block
          | apply W.skip
          | apply W.ret
          | apply W.exit
          | (refine W.condA (ht := fun hb => ?_) (hf := fun hb => ?_) <;> (try simp at hb) <;> (try (exfalso; omega))))
        exact FinM.ret ResM.auto
theorem ofZ_ok (x : Int) (hx : i64B x) : ACalls Tryz.prog 37 [cI x] (.pv (zB x)) := by
  by_cases h : 0 ≤ x
  · exact ofZ_walk x hx 1 (.inl ⟨rfl, h⟩)
  · exact ofZ_walk x hx (-1) (.inr ⟨rfl, by omega⟩)
instance (x : Int) : Decidable (i64B x) := by unfold i64B; infer_instance
def intV (x : Int) : Int := if i64B x then x else 0
theorem val_short {l : List Int} {i : Nat} (dl : Dig l) (hi : i < l.length) (h4 : l.length ≤ 4) (h3 : i = 3 → nth l i ≤ 8) : 0 ≤ val (l.take i) + pw i * nth l i ∧ val (l.take i) + pw i * nth l i ≤ 18446744073709551615 := by
  have h1 := low_at dl (j := i) (by omega)
  have h2 := dl.nth hi
  have hm : 0 ≤ pw i * nth l i := Int.mul_nonneg (by have := pw_pos i; omega) h2.1
  have hc : i = 0 ∨ i = 1 ∨ i = 2 ∨ i = 3 := by omega
  refine ⟨by omega, ?_⟩
  rcases hc with rfl | rfl | rfl | rfl <;> simp only [pw] at h1 ⊢ <;> omega
theorem intZ_ok (x : Int) (hx : okZ x) : ACalls Tryz.prog 84 [zB x] (.tup [cI (intV x), cB (decide (i64B x))]) := by
  have h1 := right_yes hx
  have l1 := num_len hx
  have c1 := sgn_cases x
  have dl := digs_norm (mag x)
  have ev := val_mag x
  have m0 := mag_nn x
  have hno : ¬ mag x ≤ 9223372036854775808 → intV x = 0 ∧ decide (i64B x) = false := fun h => by
    have : ¬ i64B x := fun q => h (i64_mag q)
    exact ⟨if_neg this, decide_eq_false this⟩
  have hbig : ¬ (digs (mag x)).length ≤ 4 → ¬ mag x ≤ 9223372036854775808 := fun h q => h ((digs_len m0).2 (by
    have h6 : pw 4 = 1208925819614629174706176 := by simp [pw]
    omega))
  by_cases hl : (digs (mag x)).length ≤ 4
  case neg =>
    obtain ⟨e1, e2⟩ := hno (hbig hl)
    rw [e1, e2]
    refine ACalls.of_M TYok (qs := [cI 0, cB false]) [.tmp 2, .tmp 3] 59 Tryz.func84 (by kernel_rfl) rfl rfl rfl fun G => ?_
    refine W.initA (hw := ?_)
    repeat' (first
      | ((first | apply U_ | (apply Ug_; exact rfl; exact rfl) | (apply Ugq_; exact rfl; exact rfl)); (first
    | exact QX.Move TYok
    | exact QX.Asg TYok
    | exact QX.Fld TYok
    | exact QX.Ld TYok
    | exact QX.Bin TYok
    | exact QX.Pick TYok
    | exact QX.Un TYok
    | exact QX.Len TYok
    | exact QX.Idx TYok
    | exact QX.Conv TYok
    | (apply Q_call (h1); exact EvL.auto; exact rfl)); exact rfl)
      | refine SX.Box TYok (h := ?_)
      | apply RG.nil
      | apply Lex.nil
      | apply Then.n
      | apply Then.r
      | apply Then.x
      | apply InBlock.n
      | apply InBlock.r
      | apply InBlock.hit
      | (apply InBlock.miss; exact rfl)
      | apply W.seq
      | apply W.region
      | apply W.block
      | apply W.skip
      | apply W.ret
      | apply W.exit
      | (apply S_isnil TYok; exact rfl; exact rfl; exact rfl; exact Ev.auto; intro bn hnil)
      | (apply RG.gT; exact rfl; exact rfl; (first | assumption | decide))
      | (apply RG.gF; exact rfl; exact rfl; (first | assumption | decide | (rw [ne_eq, Bool.not_eq_true]; assumption) | (rw [ne_eq, Bool.not_eq_false]; assumption)); exact rfl)
      | (refine W.condA (ht := fun hb => ?_) (hf := fun hb => ?_) <;> (try simp at hb) <;> (try (exfalso; omega))))
    exact FinM.ret ResM.auto
  refine ACalls.of_W (qs := [cI (intV x), cB (decide (i64B x))]) [2, 3] 59 Tryz.func84 (by kernel_rfl) rfl rfl rfl fun G => ?_
  refine W.initA (hw := ?_)
  repeat' (first
    | ((first | apply U_ | (apply Ug_; exact rfl; exact rfl) | (apply Ugq_; exact rfl; exact rfl)); (first
    | exact QX.Move TYok
    | exact QX.Asg TYok
    | exact QX.Fld TYok
    | exact QX.Ld TYok
    | exact QX.Bin TYok
    | exact QX.Pick TYok
    | exact QX.Un TYok
    | exact QX.Len TYok
    | exact QX.Idx TYok
    | exact QX.Conv TYok
    | (apply Q_call (h1); exact EvL.auto; exact rfl)); exact rfl)
    | refine SX.Box TYok (h := ?_)
    | apply RG.nil
    | apply Lex.nil
    | apply Then.n
    | apply Then.r
    | apply Then.x
    | apply InBlock.n
    | apply InBlock.r
    | apply InBlock.hit
    | (apply InBlock.miss; exact rfl)
    | apply W.seq
    | apply W.region
    | apply W.block
    | apply W.skip
    | apply W.ret
    | apply W.exit
    | (apply S_isnil TYok; exact rfl; exact rfl; exact rfl; exact Ev.auto; intro bn hnil)
    | (apply RG.gT; exact rfl; exact rfl; (first | assumption | decide))
    | (apply RG.gF; exact rfl; exact rfl; (first | assumption | decide | (rw [ne_eq, Bool.not_eq_true]; assumption) | (rw [ne_eq, Bool.not_eq_false]; assumption)); exact rfl)
    | (refine W.condA (ht := fun hb => ?_) (hf := fun hb => ?_) <;> (try simp at hb) <;> (try (exfalso; omega))))
  apply W.loopP (σ := Nat × Int) 59 [1, 17, 18] (fun (i, u) => i ≤ (digs (mag x)).length ∧ u = val ((digs (mag x)).take i) ∧ 0 ≤ u ∧ u ≤ 18446744073709551615) (fun (i, u) => [(4, (True, .pv (.one (.int .u64 u)))), (19, vI i)]) (fun _ => [(1, ⟨24, 2, [[.int .i64 (sgn x), .sl ((digs (mag x)).map encI)]]⟩)]) (fun (i, u) => (digs (mag x)).length - i) ((0, 0))
  case hp => repeat (first | exact Pick.nil | apply Pick.cons rfl)
  case h0 =>
    refine ⟨⟨by simp, by simp [val], by omega, by omega⟩, ?_⟩
    exact Le.auto
  case round =>
    rintro ⟨i, u⟩ ⟨g1, g2, g3, g4⟩
    dsimp only at g1 g2 g3 g4 ⊢
    generalize hD : digs (mag x) = D at *
    apply W.norm (by repeat (first | exact App.nil | apply App.cons))
    by_cases hi : i < D.length
    · have d1 := dl.dig.nth hi
      by_cases h3 : i = 3 ∧ 8 < nth D i
      · have hn : ¬ mag x ≤ 9223372036854775808 := by
          rw [← ev, val_split D (i := i) (by omega), val_drop hi]
          have q1 := val_lo (dl.dig.take i)
          have q2 := val_lo (dl.dig.drop (i + 1))
          obtain ⟨rfl, q3⟩ := h3
          simp only [pw]
          omega
        obtain ⟨e1, e2⟩ := hno hn
        rw [e1, e2]
        repeat' (first
          | ((first | apply U_ | (apply Ug_; exact rfl; exact rfl) | (apply Ugq_; exact rfl; exact rfl)); (first
    | exact QX.Move TYok
    | exact QX.Asg TYok
    | exact QX.Fld TYok
    | exact QX.Ld TYok
    | exact QX.Bin TYok
    | exact QX.Pick TYok
    | exact QX.Un TYok
    | exact QX.Len TYok
    | exact QX.Idx TYok
    | exact QX.Conv TYok); exact rfl)
          | refine SX.Box TYok (h := ?_)
          | apply RG.nil
          | apply Lex.nil
          | apply Then.n
          | apply Then.r
          | apply Then.x
          | apply InBlock.n
          | apply InBlock.r
          | apply InBlock.hit
          | (apply InBlock.miss; exact rfl)
          | apply W.seq
          | apply W.region
          | apply W.block
          | apply W.skip
          | apply W.ret
          | apply W.exit
          | (apply S_isnil TYok; exact rfl; exact rfl; exact rfl; exact Ev.auto; intro bn hnil)
          | (apply RG.gT; exact rfl; exact rfl; (first | assumption | decide))
          | (apply RG.gF; exact rfl; exact rfl; (first | assumption | decide | (rw [ne_eq, Bool.not_eq_true]; assumption) | (rw [ne_eq, Bool.not_eq_false]; assumption)); exact rfl)
          | (refine W.condA (ht := fun hb => ?_) (hf := fun hb => ?_) <;> (try simp at hb) <;> (try (exfalso; omega))))
        · exact Fin.ret ResL.auto
        all_goals (exfalso; omega)
      · have hs := val_short dl.dig hi hl (by omega)
        have hor := u64_or20 (i := i) (u := u) (d := nth D i) (by omega) (by rw [g2]; exact low_at dl.dig (by omega)) d1 (by omega)
        have hwd : IntKind.u64.wrap (nth D i) = nth D i := by rw [wrap_u64']; omega
        repeat' (first
          | ((first | apply U_ | (apply Ug_; exact rfl; exact rfl) | (apply Ugq_; exact rfl; exact rfl)); (first
    | (apply Q_shl; exact Ev.auto; exact Ev.auto; (intro hg; omega))
    | exact QX.Move TYok
    | exact QX.Asg TYok
    | exact QX.Fld TYok
    | exact QX.Ld TYok
    | exact QX.Bin TYok
    | exact QX.Pick TYok
    | exact QX.Un TYok
    | exact QX.Len TYok
    | exact QX.Idx TYok
    | exact QX.Conv TYok); exact rfl)
          | refine SX.Box TYok (h := ?_)
          | apply RG.nil
          | apply Lex.nil
          | apply Then.n
          | apply Then.r
          | apply Then.x
          | apply InBlock.n
          | apply InBlock.r
          | apply InBlock.hit
          | (apply InBlock.miss; exact rfl)
          | apply W.seq
          | apply W.region
          | apply W.block
          | apply W.skip
          | apply W.ret
          | apply W.exit
          | (apply S_isnil TYok; exact rfl; exact rfl; exact rfl; exact Ev.auto; intro bn hnil)
          | (apply RG.gT; exact rfl; exact rfl; (first | assumption | decide))
          | (apply RG.gF; exact rfl; exact rfl; (first | assumption | decide | (rw [ne_eq, Bool.not_eq_true]; assumption) | (rw [ne_eq, Bool.not_eq_false]; assumption)); exact rfl)
          | (refine W.condA (ht := fun hb => ?_) (hf := fun hb => ?_) <;> (try simp at hb) <;> (try (exfalso; omega))))
        refine ⟨(i + 1, u + pw i * nth D i), ⟨by omega, by rw [val_take hi, g2], by rw [g2]; exact hs.1, by rw [g2]; exact hs.2⟩, ?_, by (try simp only); omega⟩
        simp only [hwd, hor]
        exact Le.auto
    · obtain rfl : i = D.length := by omega
      rw [List.take_length, ev] at g2
      subst g2
      repeat' (first
        | ((first | apply U_ | (apply Ug_; exact rfl; exact rfl) | (apply Ugq_; exact rfl; exact rfl)); (first
    | exact QX.Move TYok
    | exact QX.Asg TYok
    | exact QX.Fld TYok
    | exact QX.Ld TYok
    | exact QX.Bin TYok
    | exact QX.Pick TYok
    | exact QX.Un TYok
    | exact QX.Len TYok
    | exact QX.Idx TYok
    | exact QX.Conv TYok
    | (apply Q_negw; exact Ev.auto)); exact rfl)
        | refine SX.Box TYok (h := ?_)
        | apply RG.nil
        | apply Lex.nil
        | apply Then.n
        | apply Then.r
        | apply Then.x
        | apply InBlock.n
        | apply InBlock.r
        | apply InBlock.hit
        | (apply InBlock.miss; exact rfl)
        | apply W.seq
        | apply W.region
        | apply W.block
        | apply W.skip
        | apply W.ret
        | apply W.exit
        | (apply S_isnil TYok; exact rfl; exact rfl; exact rfl; exact Ev.auto; intro bn hnil)
        | (apply RG.gT; exact rfl; exact rfl; (first | assumption | decide))
        | (apply RG.gF; exact rfl; exact rfl; (first | assumption | decide | (rw [ne_eq, Bool.not_eq_true]; assumption) | (rw [ne_eq, Bool.not_eq_false]; assumption)); exact rfl)
        | (refine W.condA (ht := fun hb => ?_) (hf := fun hb => ?_) <;> (try simp at hb) <;> (try (exfalso; omega))))
      · have e1 : IntKind.i64.wrap (IntKind.u64.wrap (0 - mag x)) = x := by rw [wrap_u64', IntKind.wrap_i64]; omega
        have hb2 : i64B x := by unfold i64B; omega
        rw [show intV x = IntKind.i64.wrap (IntKind.u64.wrap (0 - mag x)) by rw [e1]; exact if_pos hb2, decide_eq_true hb2]
        exact Fin.ret ResL.auto
      · have hb2 : i64B x := by unfold i64B; omega
        rw [show intV x = mag x by rw [show intV x = x from if_pos hb2]; omega, decide_eq_true hb2]
        exact Fin.ret ResL.auto
      · have hb2 : ¬ i64B x := by unfold i64B; omega
        rw [show intV x = 0 from if_neg hb2, decide_eq_false hb2]
        exact Fin.ret ResL.auto
end Go.Proofs.YtipghibmgfhmpaaGreatDoor
