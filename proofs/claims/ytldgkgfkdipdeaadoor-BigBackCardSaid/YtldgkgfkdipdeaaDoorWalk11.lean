/-
  Big integers: their texts.
-/
import Derived.Test.YtldgkgfkdipdeaaDoorWalk10
import Derived.Test.YtldgkgfkdipdeaaDoorLfBig
set_option linter.unusedVariables false
set_option linter.unusedSimpArgs false
set_option maxHeartbeats 8000000
namespace Go.Proofs.YtldgkgfkdipdeaaDoor
open Lf Go
attribute [local irreducible] PureOp EffOp Ev RG W Then InBlock Lf.Fin nth App InitE Pick SubE SubF SubG EvL EvD EvP EvR ResL Lf.Lex SubR SubBR RA RAll EvC FinO FinM ResM FinB ResD FinS val pw digs trimL

open Go.RowKit
theorem flat_len {ps : List Str} (h : ∀ p ∈ ps, p.length ≤ 5) : ps.flatten.length ≤ 5 * ps.length := by
  induction ps with
  | nil => simp
  | cons p ps ih =>
    have h1 := h p (by simp)
    have h2 := ih fun q hq => h q (by simp [hq])
    simp only [List.flatten_cons, List.length_append, List.length_cons]
    omega
structure TextI (x : Int) (ps : List Str) (u : Int) : Prop where
  u0 : 0 ≤ u
  cnt : u * pk ps.length ≤ mag x
  some : 0 < u → decZ (mag x) = decZ u ++ ps.reverse.flatten
  none : u = 0 → decZ (mag x) = ps.reverse.flatten ∧ ps ≠ []
  small : ∀ p ∈ ps, p.length ≤ 5
  few : ps.length ≤ 75
theorem TextI.lt {x u : Int} {ps : List Str} (h : TextI x ps u) (hx : okZ x) (hu : 0 < u) : ps.length < 75 ∧ u < pw 60 := by
  have h1 := h.cnt
  have hp := pk_pos ps.length
  unfold okZ at hx
  constructor
  · by_cases hc : ps.length < 75
    · exact hc
    · have h2 := pk_mono (show 75 ≤ ps.length by omega)
      rw [pk75] at h2
      have h3 : 1 * pk ps.length ≤ u * pk ps.length := Int.mul_le_mul_of_nonneg_right (by omega) (by omega)
      omega
  · have h3 : u * 1 ≤ u * pk ps.length := Int.mul_le_mul_of_nonneg_left (by omega) (by omega)
    omega
theorem TextI.step {x u : Int} {ps : List Str} (h : TextI x ps u) (hx : okZ x) (hu : 0 < u) {s : Str} (hs : s = if 0 < u / 100000 then padZ (u % 100000) else decZ (u % 100000)) : TextI x (ps ++ [s]) (u / 100000) := by
  have h1 := h.lt hx hu
  have h2 := h.cnt
  have h3 := h.some hu
  have hp := pk_pos ps.length
  have hr := dec_short (r := u % 100000) (by omega)
  have e1 : (ps ++ [s]).reverse.flatten = s ++ ps.reverse.flatten := by simp
  refine ⟨by omega, ?_, fun hq => ?_, fun hq => ⟨?_, by simp⟩, fun p hm => ?_, by simp; omega⟩
  · rw [List.length_append, List.length_singleton, pk]
    have h4 : u / 100000 * (65536 * pk ps.length) = (u / 100000 * 65536) * pk ps.length := by grind
    have h5 : (u / 100000 * 65536) * pk ps.length ≤ u * pk ps.length := Int.mul_le_mul_of_nonneg_right (by omega) (by omega)
    omega
  · rw [e1, h3, dec_div (u := u) (by omega), hs, if_pos hq, List.append_assoc]
  · rw [e1, h3, hs, if_neg (by omega), show u % 100000 = u by omega]
  · rcases List.mem_append.1 hm with hm | hm
    · exact h.small p hm
    · rw [List.mem_singleton] at hm
      subst hm
      rw [hs]
      split
      · unfold padZ
        rw [List.length_append, Lib.repeatL_length]
        simp; omega
      · exact hr
theorem join_flat (l : List Str) : Lib.join l [] = l.flatten := by
  unfold Lib.join
  induction l with
  | nil => rfl
  | cons s l ih =>
    cases l with
    | nil => simp [List.intercalate]
    | cons t l =>
      simp [List.intercalate, List.intersperse] at ih ⊢
      exact ih
theorem rev_nil : ACalls Tryd.prog 40 [slS []] (.tup []) where
  fn := ⟨_, Tryd.func40, by kernel_rfl, rfl⟩
  calls := fun Φ w vs hfit harg => by
    obtain ⟨v, rfl, r0⟩ := args1 harg
    have r0' : Rel Φ v (.sl []) := r0
    have key : ∀ (a : Option Addr) (cap : Nat), Calls Tryd.prog 40 #[.slice a 0 cap] w (fun e w' => ∃ v Φ', e = .returned v ∧ AVRel Φ' (fun _ => none) [] v (.tup []) ∧ Φ.le Φ' ∧ (∀ b, b < w.heap.size → Φ' b = Φ b) ∧ Fits Φ' w' ∧ Below w.heap.size w w') := fun a cap =>
      (Tryd.slices_Reverse_string_empty a cap w).mono fun e w' ⟨he, hw⟩ => fin_flat hfit (v0 := .tuple #[]) (r := .tup []) ⟨#[], rfl, rfl, fun j p h => by simp at h⟩ he (hw ▸ Below.refl _ _)
    generalize hr : ([] : List (List Cell)) = rows at r0'
    cases r0' with
    | sl0 => exact key _ _
    | slE a cap => exact key _ _
    | sl b off len cap sz rows f hlen hcap hsz2 hc hrel => subst hr; simp at hlen; subst hlen; exact key _ _
theorem text_zero : GCalls Tryd.prog 2 powC 18 [zB 0] (.pv (cS (txtZ 0))) := by
  have h1 := right_yes okZ.zero
  have h2 := rev_nil
  have h3 := join_ok [] [] (by simp) (by simp [Lib.join_nil])
  have e2 : txtZ 0 = [48] := by rw [txtZ, if_neg (by omega), decZ, show (0 : Int).toNat = 0 from rfl, Lib.decDigits_one (by omega)]; rfl
  rw [e2]
  rw [zB0] at h1 ⊢
  refine GCalls.of_M TYok (qs := [cS [48]]) [.tmp 2] 51 Tryd.func18 (by kernel_rfl) rfl rfl rfl fun G hG => ?_
  refine W.initA (hw := ?_)
  repeat' (first
    | apply RG.nil
    | apply Lex.nil
    | apply Then.n
    | apply Then.r
    | apply Then.x
    | apply InBlock.n
    | apply InBlock.r
    | apply InBlock.hit
    | (apply InBlock.miss; exact rfl)
    | apply W.seq
    | apply W.region
    | apply W.block
    | apply W.skip
    | apply W.ret
    | apply W.exit
    | ((first | apply U_); (first
    | exact QX.Move TYok
    | exact QX.Asg TYok
    | exact QX.Fld TYok
    | exact QX.Ld TYok
    | exact QX.Bin TYok
    | exact QX.Un TYok
    | exact QX.Len TYok
    | exact QX.Ext TYok
    | (apply Q_call (h1); exact EvL.auto; exact rfl)); exact rfl)
    | refine SX.Lit TYok (h := ?_)
    | refine SX.App TYok (h := ?_)
    | refine SX.Box TYok (h := ?_)
    | (apply S_isnil TYok; exact rfl; exact rfl; exact rfl; exact Ev.auto; intro bn hnil)
    | (refine W.condA (ht := fun hb => ?_) (hf := fun hb => ?_) <;> (try simp at hb) <;> (try (exfalso; omega))))
  apply W.loopP (σ := Unit) 51 [1] (fun _ => True) (fun _ => [(3, (True, .pv (.one .slnil))), (4, (True, .pv (slI [])))]) (fun _ => [(1, ⟨24, 2, [[.int .i64 0, .sl []]]⟩)]) (fun _ => 0) (())
  case hp => repeat (first | exact Pick.nil | apply Pick.cons rfl)
  case h0 =>
    refine ⟨trivial, ?_⟩
    exact Le.auto
  case round =>
    rintro ⟨⟩ -
    apply W.norm (by repeat (first | exact App.nil | apply App.cons))
    repeat' (first
      | apply RG.nil
      | apply Lex.nil
      | apply Then.n
      | apply Then.r
      | apply Then.x
      | apply InBlock.n
      | apply InBlock.r
      | apply InBlock.hit
      | (apply InBlock.miss; exact rfl)
      | apply W.seq
      | apply W.region
      | apply W.block
      | apply W.skip
      | apply W.ret
      | apply W.exit
      | ((first | apply U_); (first
    | exact QX.Move TYok
    | exact QX.Asg TYok
    | exact QX.Fld TYok
    | exact QX.Ld TYok
    | exact QX.Bin TYok
    | exact QX.Un TYok
    | exact QX.Len TYok
    | exact QX.Ext TYok
    | (apply Q_calld (h2); exact EvD.auto)
    | (apply Q_calld (h3); exact EvD.auto)); exact rfl)
      | refine SX.Lit TYok (h := ?_)
      | refine SX.App TYok (h := ?_)
      | refine SX.Box TYok (h := ?_)
      | (apply S_isnil TYok; exact rfl; exact rfl; exact rfl; exact Ev.auto; intro bn hnil)
      | (refine W.condA (ht := fun hb => ?_) (hf := fun hb => ?_) <;> (try simp at hb) <;> (try (exfalso; omega))))
    exact FinM.ret ResM.auto
theorem text_more (x : Int) (hx : okZ x) (h0 : x ≠ 0) : GCalls Tryd.prog 2 powC 18 [zB x] (.pv (cS (txtZ x))) := by
  have h1 := right_yes hx
  have c1 := sgn_cases x
  have m0 := mag_nn x
  refine GCalls.of_M TYok (qs := [cS (txtZ x)]) [.tmp 2] 51 Tryd.func18 (by kernel_rfl) rfl rfl rfl fun G hG => ?_
  refine W.initA (hw := ?_)
  repeat' (first
    | apply RG.nil
    | apply Lex.nil
    | apply Then.n
    | apply Then.r
    | apply Then.x
    | apply InBlock.n
    | apply InBlock.r
    | apply InBlock.hit
    | (apply InBlock.miss; exact rfl)
    | apply W.seq
    | apply W.region
    | apply W.block
    | apply W.skip
    | apply W.ret
    | apply W.exit
    | ((first | apply U_); (first
    | exact QX.Move TYok
    | exact QX.Asg TYok
    | exact QX.Fld TYok
    | exact QX.Ld TYok
    | exact QX.Bin TYok
    | exact QX.Un TYok
    | exact QX.Len TYok
    | exact QX.Ext TYok
    | (apply Q_call (h1); exact EvL.auto; exact rfl)); exact rfl)
    | refine SX.Lit TYok (h := ?_)
    | refine SX.App TYok (h := ?_)
    | refine SX.Box TYok (h := ?_)
    | (apply S_isnil TYok; exact rfl; exact rfl; exact rfl; exact Ev.auto; intro bn hnil)
    | (refine W.condA (ht := fun hb => ?_) (hf := fun hb => ?_) <;> (try simp at hb) <;> (try (exfalso; omega))))
  refine W.weaken (Le.nilOwn (t := 3) (n := 36) (E := 9) (sz := 1) rfl) ?_
  apply W.loopP (σ := Int × List Str) 51 [] (fun (u, ps) => TextI x ps u) (fun (u, ps) => [(3, (True, .slc 36)), (4, (True, .pv (slI (digs u)))), (1, (True, .addr 1 0 0))]) (fun (u, ps) => [(1, ⟨24, 2, [[.int .i64 (sgn x), .sl ((digs (mag x)).map Lf.encI)]]⟩), (36, ⟨9, 1, ps.map encS⟩)]) (fun (u, ps) => u.toNat) ((mag x, []))
  case hp => repeat (first | exact Pick.nil | apply Pick.cons rfl)
  case h0 =>
    refine ⟨⟨m0, by simp [pk], fun _ => by simp, fun h => by omega, fun p hp => by simp at hp, by simp⟩, ?_⟩
    exact Le.auto
  case round =>
    rintro ⟨u, ps⟩ g1
    dsimp only at g1 ⊢
    have g2 := g1.u0
    apply W.norm (by repeat (first | exact App.nil | apply App.cons))
    by_cases hu : 0 < u
    · obtain ⟨g3, g4⟩ := g1.lt hx hu
      have hl := (digs_len g2).2 g4
      have hne : digs u ≠ [] := fun e => by rw [digs_nil g2] at e; omega
      have h2 := short_ok (digs u) 100000 (digs_norm _).dig (by omega) (by omega)
      rw [val_digs g2] at h2
      have hr : 0 ≤ u % 100000 ∧ u % 100000 < 100000 := by omega
      have h3 := itoa_ok (u % 100000) (by unfold i64B; omega)
      rw [itoa_decZ hr.1] at h3
      have hs5 := dec_short hr
      by_cases hq : 0 < u / 100000
      · have hqn : digs (u / 100000) ≠ [] := fun e => by rw [digs_nil (by omega)] at e; omega
        have h4 := repeat_ok [48] (5 - (decZ (u % 100000)).length) (by simp; try omega) (by omega)
        have e4 : ((5 - (decZ (u % 100000)).length : Nat) : Int) = 5 - ((decZ (u % 100000)).length : Int) := by omega
        rw [e4] at h4
        have g5 := g1.step hx hu (s := padZ (u % 100000)) (by rw [if_pos hq])
        have hpl : (Lib.repeatL [48] (5 - (decZ (u % 100000)).length)).length ≤ 5 := by rw [Lib.repeatL_length]; simp
        have ep : padZ (u % 100000) = Lib.repeatL [48] (5 - (decZ (u % 100000)).length) ++ decZ (u % 100000) := rfl
        repeat' (first
          | apply RG.nil
          | apply Lex.nil
          | apply Then.n
          | apply Then.r
          | apply Then.x
          | apply InBlock.n
          | apply InBlock.r
          | apply InBlock.hit
          | (apply InBlock.miss; exact rfl)
          | apply W.seq
          | apply W.region
          | apply W.block
          | apply W.skip
          | apply W.ret
          | apply W.exit
          | ((first | apply U_); (first
    | exact QX.Move TYok
    | exact QX.Asg TYok
    | exact QX.Fld TYok
    | exact QX.Ld TYok
    | exact QX.Bin TYok
    | exact QX.Un TYok
    | exact QX.Len TYok
    | exact QX.Ext TYok
    | (apply Q_calld (h2); exact EvD.auto)
    | (apply Q_callG hG (h3); exact EvL.auto; exact rfl)
    | (apply Q_calld (h4); exact EvD.auto)); exact rfl)
          | refine SX.Lit TYok (h := ?_)
          | refine SX.App TYok (h := ?_)
          | refine SX.Box TYok (h := ?_)
          | (apply S_isnil TYok; exact rfl; exact rfl; exact rfl; exact Ev.auto; intro bn hnil)
          | (refine W.condA (ht := fun hb => ?_) (hf := fun hb => ?_) <;> (try simp at hb) <;> (try (exfalso; omega))))
        all_goals first
          | exact absurd hb hqn
          | exact absurd hb hne
          | (refine ⟨(u / 100000, ps ++ [padZ (u % 100000)]), g5, ?_, by (try simp only); omega⟩
             simp only [← ep]
             exact Le.auto)
      · have hqn : digs (u / 100000) = [] := (digs_nil (by omega)).2 (by omega)
        have g5 := g1.step hx hu (s := decZ (u % 100000)) (by rw [if_neg hq])
        repeat' (first
          | apply RG.nil
          | apply Lex.nil
          | apply Then.n
          | apply Then.r
          | apply Then.x
          | apply InBlock.n
          | apply InBlock.r
          | apply InBlock.hit
          | (apply InBlock.miss; exact rfl)
          | apply W.seq
          | apply W.region
          | apply W.block
          | apply W.skip
          | apply W.ret
          | apply W.exit
          | ((first | apply U_); (first
    | exact QX.Move TYok
    | exact QX.Asg TYok
    | exact QX.Fld TYok
    | exact QX.Ld TYok
    | exact QX.Bin TYok
    | exact QX.Un TYok
    | exact QX.Len TYok
    | exact QX.Ext TYok
    | (apply Q_calld (h2); exact EvD.auto)
    | (apply Q_callG hG (h3); exact EvL.auto; exact rfl)); exact rfl)
          | refine SX.Lit TYok (h := ?_)
          | refine SX.App TYok (h := ?_)
          | refine SX.Box TYok (h := ?_)
          | (apply S_isnil TYok; exact rfl; exact rfl; exact rfl; exact Ev.auto; intro bn hnil)
          | (refine W.condA (ht := fun hb => ?_) (hf := fun hb => ?_) <;> (try simp at hb) <;> (try (exfalso; omega))))
        all_goals first
          | exact absurd hb hne
          | (exfalso; rw [hqn] at hb; simp at hb; done)
          | (refine ⟨(u / 100000, ps ++ [decZ (u % 100000)]), g5, ?_, by (try simp only); omega⟩
             exact Le.auto)
    · obtain rfl : u = 0 := by omega
      obtain ⟨g3, g4⟩ := g1.none rfl
      have hlr := reverse_lent ps (by have := g1.few; omega)
      have k1 : ps.map encS ≠ [] := fun e => g4 (List.map_eq_nil_iff.1 e)
      have k2 : (ps.reverse.map encS).length = (ps.map encS).length := by simp
      have hfl := flat_len (ps := ps.reverse) (fun p hp => g1.small p (List.mem_reverse.1 hp))
      have h4 := join_ok ps.reverse [] (by have := g1.few; simp; omega) (by rw [join_flat]; have := g1.few; simp at hfl ⊢; omega)
      rw [join_flat, ← g3] at h4
      have hd0 : digs (0 : Int) = [] := (digs_nil (by omega)).2 rfl
      have hlz : (decZ (mag x)).length ≤ 375 := by rw [g3]; have := g1.few; simp at hfl ⊢; omega
      have et : txtZ x = if sgn x = -1 then 45 :: decZ (mag x) else decZ (mag x) := by
        unfold txtZ
        by_cases hn : x < 0
        · rw [if_pos hn, if_pos (by omega), show -x = mag x by omega]
        · have e : mag x = x := by omega
          rw [if_neg hn, if_neg (by omega), e]
      repeat' (first
        | (refine W.weaken (Le.freeze1 (m := 36) rfl) ?_; apply W.region (id := 12))
        | apply RG.nil
        | apply Lex.nil
        | apply Then.n
        | apply Then.r
        | apply Then.x
        | apply InBlock.n
        | apply InBlock.r
        | apply InBlock.hit
        | (apply InBlock.miss; exact rfl)
        | apply W.seq
        | apply W.region
        | apply W.block
        | apply W.skip
        | apply W.ret
        | apply W.exit
        | ((first | apply U_); (first
    | exact QX.Move TYok
    | exact QX.Asg TYok
    | exact QX.Fld TYok
    | exact QX.Ld TYok
    | exact QX.Bin TYok
    | exact QX.Un TYok
    | exact QX.Len TYok
    | exact QX.Ext TYok
    | (apply Q_calld (h4); exact EvD.auto)); exact rfl)
        | refine SX.Lit TYok (h := ?_)
        | refine SX.App TYok (h := ?_)
        | refine SX.Box TYok (h := ?_)
        | (apply S_calllend hlr; exact Ev.auto; exact rfl; exact k1; exact k2; exact rfl)
        | (apply S_isnil TYok; exact rfl; exact rfl; exact rfl; exact Ev.auto; intro bn hnil)
        | (refine W.condA (ht := fun hb => ?_) (hf := fun hb => ?_) <;> (try simp at hb) <;> (try (exfalso; omega))))
      · exfalso; rw [hd0] at hb; simp at hb
      · rw [et, if_pos hb]
        exact FinM.ret ResM.auto
      · rw [et, if_neg hb]
        exact FinM.ret ResM.auto
theorem text_ok (x : Int) (hx : okZ x) : GCalls Tryd.prog 2 powC 18 [zB x] (.pv (cS (txtZ x))) := by
  by_cases h : x = 0
  · subst h; exact text_zero
  · exact text_more x hx h
end Go.Proofs.YtldgkgfkdipdeaaDoor
