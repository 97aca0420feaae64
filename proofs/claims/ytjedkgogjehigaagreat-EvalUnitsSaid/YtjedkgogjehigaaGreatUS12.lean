/-
  Part 12 of what the proof rests on.
-/
import Derived.Test.YtjedkgogjehigaaGreatUS11
import Derived.Test.YtjedkgogjehigaaGreatUS10
section
set_option linter.unusedVariables false
set_option linter.unusedSimpArgs false
set_option maxHeartbeats 8000000
set_option linter.unusedSectionVars false
namespace Go.Proofs.YtjedkgogjehigaaGreat
open Lf Go
attribute [local irreducible] PureOp EffOp Ev RG W Then InBlock Lf.Fin nth App InitE Pick SubE EvL EvD EvP EvR ResL Lf.Lex SubR SubBR RA RAll EvC FinO FinM ResM ResD FinS val pw digs trimL
attribute [local irreducible] WP PanOp PanX LendL LendC
section
variable {lets : List Let} {us : List Int}
theorem le_self {A B : St} (h : Le A B) : Le A B := h
/-- a definition, looked at with those before it -/
theorem scoped_walk (hl : lets.length ≤ 20) (U : Nat → Int) (pc : Nat → Cell) (er : Nat → Int) (us : List Int) (hu : us.length = lets.length) (hus : ∀ k, k < lets.length → nth us k = if er k = 0 then U k else -1)
    (hc : ∀ k, k < lets.length → ACalls Tryz.prog 32 [scV (lets.take k) (us.take k), aE (nth lets k).body] (.tup [cI (U k), .agg [pc k, .int .i64 (er k)]])) :
    ACalls Tryz.prog 31 [slL lets] (.pv (scV lets us)) := by
  refine ACalls.of_M TYok (qs := [scV lets us]) [.cell 2 77] 38 Tryz.func31 (by kernel_rfl) rfl rfl rfl fun G => W.fin ?_
  refine W.initA (hw := ?_)
  repeat' (first | ((first | apply U_); (first | exact QX.B TYok | exact QX.Len TYok | exact QX.Idx TYok | exact QX.Ext TYok); exact rfl) | refine SX.Alloc TYok (h := ?_) | refine SC ?_)
  apply W.loopP (σ := Nat × Nat × Nat × Nat × Nat) 38 [2, 3, 8, 9] (fun (k, b, c, b2, c2) => k ≤ lets.length) (fun (k, b, c, b2, c2) => (match k with | 0 => [(10, vI 0)] | k + 1 => [(10, vI ((k + 1 : Nat) : Int)), (28, (True, .pin 28 b c (slcV b c))), (33, (True, .pin 33 b2 c2 (slcV b2 c2)))])) (fun (k, b, c, b2, c2) => (match k with | 0 => [(2, ⟨77, 2, [[.slnil, .slnil]]⟩), (3, ⟨77, 2, [[.slnil, .slnil]]⟩)] | k + 1 => [(2, ⟨77, 2, [[.slnil, .slnil]]⟩), (3, ⟨77, 2, [[.sla b ((lets.take (k + 1)).map encL).length c, .sla b2 ((us.take (k + 1)).map encJ).length c2]]⟩), (28, ⟨56, 6, (lets.take (k + 1)).map encL⟩), (33, ⟨3, 1, (us.take (k + 1)).map encJ⟩)])) (fun (k, b, c, b2, c2) => lets.length - k) ((0, 0, 0, 0, 0))
  case hp => repeat (first | exact Pick.nil | apply Pick.cons rfl)
  case h0 =>
    refine ⟨by simp, ?_⟩
    exact Le.auto
  case round =>
    rintro ⟨_ | k, b, c, b2, c2⟩ hk1
    · dsimp only
      apply W.norm (by repeat (first | exact App.nil | apply App.cons))
      by_cases hk : 0 < lets.length
      · have c1 := hc 0 hk
        have hu0 := hus 0 hk
        have e1 : (lets.take (0 + 1)).map encL = [encL (nth lets 0)] := by
          obtain ⟨x, r, rfl⟩ : ∃ x r, lets = x :: r := by cases lets with | nil => simp at hk | cons x r => exact ⟨x, r, rfl⟩
          rw [nth_cons0]; rfl
        have e2 : (us.take (0 + 1)).map encJ = [[.int .i64 (nth us 0)]] := by
          obtain ⟨x, r, rfl⟩ : ∃ x r, us = x :: r := by cases us with | nil => simp at hu; omega | cons x r => exact ⟨x, r, rfl⟩
          rw [nth_cons0]; rfl
        generalize nth us 0 = u0 at *
        generalize er 0 = er0 at *
        generalize pc 0 = pc0 at *
        generalize U 0 = U0 at *
        have hu1 : er0 = 0 → U0 = u0 := fun h => by rw [if_pos h] at hu0; exact hu0.symm
        have hu2 : ¬ er0 = 0 → u0 = -1 := fun h => by rw [if_neg h] at hu0; exact hu0
        clear hu0
        by_cases he : er0 = 0
        · have hq := hu1 he
          clear hu1 hu2
          subst hq he
          repeat' (first | (refine W.weaken (Le.freeze1 (m := 5) rfl) ?_) | (refine RG.weaken (Le.nilOwn (t := 25) (n := 28) (E := 56) (sz := 6) rfl) ?_) | (refine RG.weaken (Le.nilOwn (t := 30) (n := 33) (E := 3) (sz := 1) rfl) ?_) | (refine W.idD ?_; refine W.drawH (id := 8) 14 [false, false, false, false, false, false, false, false, false, false, false, false, false, false] mixed rfl rfl ?_) | (refine RE0.id ?_; first | (apply RE0.take (L := [false, false, false, false, false, false, false, false, false, false, false, false, false, false]) (fuel := 13) 0 rfl rfl rfl rfl (by kernel_rfl) (by kernel_rfl) (by kernel_rfl)) | (apply RE0.take (L := [true, false, false, false, false, false, false, false, false, false, false, false, false, false]) (fuel := 12) 2 rfl rfl rfl rfl (by kernel_rfl) (by kernel_rfl) (by kernel_rfl)) | (apply RE0.take (L := [true, false, true, false, false, false, false, false, false, false, false, false, false, false]) (fuel := 11) 5 rfl rfl rfl rfl (by kernel_rfl) (by kernel_rfl) (by kernel_rfl)) | (apply RE0.take (L := [true, false, true, false, false, true, false, false, false, false, false, false, false, false]) (fuel := 10) 7 rfl rfl rfl rfl (by kernel_rfl) (by kernel_rfl) (by kernel_rfl)) | (refine RE0.memoK (L := [true, false, true, false, false, true, false, true, false, false, false, false, false, false]) (fn := 3) [([true, false, true, false, false, true, false, true, false, false, false, false, false, false], [(1, 1), (3, 2), (6, 3), (8, 4)]), ([true, true, true, false, false, true, false, true, false, false, false, false, false, false], [(3, 5), (6, 6), (8, 7)]), ([true, false, true, true, false, true, false, true, false, false, false, false, false, false], [(1, 5), (6, 8), (8, 9)]), ([true, false, true, false, false, true, true, true, false, false, false, false, false, false], [(1, 6), (3, 8), (8, 10)]), ([true, false, true, false, false, true, false, true, true, false, false, false, false, false], [(1, 7), (3, 9), (6, 10)]), ([true, true, true, true, false, true, false, true, false, false, false, false, false, false], [(4, 11), (6, 12), (8, 13)]), ([true, true, true, false, false, true, true, true, false, false, false, false, false, false], [(3, 12), (8, 14)]), ([true, true, true, false, false, true, false, true, true, false, false, false, false, false], [(3, 13), (6, 14)]), ([true, false, true, true, false, true, true, true, false, false, false, false, false, false], [(1, 12), (8, 15)]), ([true, false, true, true, false, true, false, true, true, false, false, false, false, false], [(1, 13), (6, 15)]), ([true, false, true, false, false, true, true, true, true, false, false, false, false, false], [(1, 14), (3, 15)]), ([true, true, true, true, true, true, false, true, false, false, false, false, false, false], [(6, 16), (8, 17)]), ([true, true, true, true, false, true, true, true, false, false, false, false, false, false], [(4, 16), (8, 18)]), ([true, true, true, true, false, true, false, true, true, false, false, false, false, false], [(4, 17), (6, 18)]), ([true, true, true, false, false, true, true, true, true, false, false, false, false, false], [(3, 18)]), ([true, false, true, true, false, true, true, true, true, false, false, false, false, false], [(1, 18)]), ([true, true, true, true, true, true, true, true, false, false, false, false, false, false], [(8, 19), (10, 20)]), ([true, true, true, true, true, true, false, true, true, false, false, false, false, false], [(6, 19)]), ([true, true, true, true, false, true, true, true, true, false, false, false, false, false], [(4, 19)]), ([true, true, true, true, true, true, true, true, true, false, false, false, false, false], [(9, 21), (10, 22)]), ([true, true, true, true, true, true, true, true, false, false, true, false, false, false], [(8, 22)]), ([true, true, true, true, true, true, true, true, true, true, false, false, false, false], [(10, 23)]), ([true, true, true, true, true, true, true, true, true, false, true, false, false, false], [(9, 23)]), ([true, true, true, true, true, true, true, true, true, true, true, false, false, false], [])] [?_, ?_, ?_, ?_, ?_, ?_, ?_, ?_, ?_, ?_, ?_, ?_, ?_, ?_, ?_, ?_, ?_, ?_, ?_, ?_, ?_, ?_, ?_, ?_] (by kernel_rfl) rfl rfl rfl rfl rfl rfl rfl rfl ?_ ?_ rfl ?_; rotate_left 24)) | (refine RE.id ?_; first | (refine RE.place (t := 28) rfl rfl (fun qb qc => ?_) (fun hz => absurd hz (by simp))) | (refine RE.place (t := 33) rfl rfl (fun qb2 qc2 => ?_) (fun hz => absurd hz (by simp))) | (refine RE.one (L := [true, true, true, true, true, true, true, true, true, true, true, false, false, false]) (i := 11) (fuel := 2) (by kernel_rfl) rfl ?_) | (refine RE.one (L := [true, true, true, true, true, true, true, true, true, true, true, true, false, false]) (i := 12) (fuel := 1) (by kernel_rfl) rfl ?_) | (refine RE.one (L := [true, true, true, true, true, true, true, true, true, true, true, true, true, false]) (i := 13) (fuel := 0) (by kernel_rfl) rfl ?_) | (refine RE.done (L := [true, true, true, true, true, true, true, true, true, true, true, true, true, true]) (by kernel_rfl) ?_)) | (apply Stab.fieldA TYok; exact Ev.auto; exact rfl; exact rfl; exact rfl; exact rfl; exact rfl) | (apply Stab.move; exact Ev.auto) | (apply Stab.loadpa TYok; exact Ev.auto; exact rfl; exact rfl; exact rfl) | exact MNP.nil | (refine MNP.cons ?_ ?_) | exact MGP.nil | (refine MGP.cons rfl rfl rfl ?_ ?_) | exact Le.refl | (refine le_self ?_; refine Le.st rfl (by repeat (first | exact SubEK.nil | refine SubEK.skip rfl ?_ | refine SubEK.one rfl (by first | exact trivial | exact rfl) ?_)) (by repeat (first | exact SubBK.nil | refine SubBK.skip rfl ?_ | refine SubBK.one rfl ?_))) | (refine W.purgeR [(5, [2, 3, 5, 8, 9, 10, 28, 33]), (6, [2, 3, 5, 6, 7, 8, 9, 10, 28, 33])] rfl (by repeat (first | exact PN.nil | apply PN.po rfl | (apply PN.pa; exact rfl; (repeat (first | (apply NR.cons; exact rfl) | exact NR.nil rfl))) | apply PN.a rfl | apply PN.s rfl | apply PN.u rfl | apply PN.m rfl | apply PN.k rfl | apply PN.i rfl | apply PN.skip)) (by repeat (first | exact PB.nil | (apply PB.one; exact rfl; (focus (first | (dsimp only; done) | (dsimp only; exact rfl) | exact rfl)); (focus (first | (dsimp only; done) | (dsimp only; exact rfl) | exact rfl)); exact rfl; (repeat (first | (apply NR.cons; exact rfl) | exact NR.nil rfl)))  | apply PB.cons rfl)) ?_) | ((first | apply U_); (first | (apply Q_callS (.tup [cI U0, .agg [pc0.blur, .int .i64 0]]) c1; exact rfl; exact Ev.auto; exact LendL.cons LendC.nil (LendL.cons LendC.nil LendL.nil); exact EvL.auto) | (apply Q_litD TYok; apply EvR.cons Ev.auto; (repeat (first | exact EvR.nil | apply EvR.cons Ev.auto)); exact rfl; exact rfl; exact rfl; exact rfl; exact rfl; exact rfl) | exact QX.B TYok | exact QX.Len TYok | exact QX.Idx TYok | exact QX.Ext TYok); exact rfl) | refine SX.Alloc TYok (h := ?_) | refine SX.Store TYok (h := ?_) | (apply S_appendF TYok; exact Ev.auto; exact Ev.auto; exact rfl; exact rfl; exact rfl; exact rfl; exact rfl; exact rfl; exact rfl; exact rfl; (intro r hr; first | (obtain ⟨_, _, rfl⟩ := List.mem_map.1 hr; rfl) | (obtain rfl := List.mem_singleton.1 hr; rfl)); (constructor <;> simp <;> omega); exact rfl; (repeat (first | exact FG.nil | (apply FG.keep; exact rfl; exact rfl) | (apply FG.gone; exact rfl)))) | (apply S_storeO TYok; exact Ev.auto; exact rfl; exact rfl; exact rfl; exact rfl; exact rfl; exact rfl; exact rfl; (first | (focus (simp; done)) | exact Nat.le_of_ble_eq_true rfl)) | refine SC ?_ | (refine W.condA (ht := fun hb => ?_) (hf := fun hb => ?_) <;> (try simp at hb) <;> (try (exfalso; omega))))
          all_goals first
            | (exfalso; omega)
            | (exfalso; rw [hb] at hk; simp at hk; done)
            | (refine ⟨(0 + 1, qb, qc, qb2, qc2), hk, ?_, by (first | omega | (simp only; omega))⟩; dsimp only; simp only [e1, e2]; exact Le.auto)
            | trace_state
        · have hq := hu2 he
          clear hu1 hu2
          subst hq
          repeat' (first | (refine W.weaken (Le.freeze1 (m := 5) rfl) ?_) | (refine RG.weaken (Le.nilOwn (t := 25) (n := 28) (E := 56) (sz := 6) rfl) ?_) | (refine RG.weaken (Le.nilOwn (t := 30) (n := 33) (E := 3) (sz := 1) rfl) ?_) | (refine W.idD ?_; refine W.drawH (id := 8) 14 [false, false, false, false, false, false, false, false, false, false, false, false, false, false] mixed rfl rfl ?_) | (refine RE0.id ?_; first | (apply RE0.take (L := [false, false, false, false, false, false, false, false, false, false, false, false, false, false]) (fuel := 13) 0 rfl rfl rfl rfl (by kernel_rfl) (by kernel_rfl) (by kernel_rfl)) | (apply RE0.take (L := [true, false, false, false, false, false, false, false, false, false, false, false, false, false]) (fuel := 12) 2 rfl rfl rfl rfl (by kernel_rfl) (by kernel_rfl) (by kernel_rfl)) | (apply RE0.take (L := [true, false, true, false, false, false, false, false, false, false, false, false, false, false]) (fuel := 11) 5 rfl rfl rfl rfl (by kernel_rfl) (by kernel_rfl) (by kernel_rfl)) | (apply RE0.take (L := [true, false, true, false, false, true, false, false, false, false, false, false, false, false]) (fuel := 10) 7 rfl rfl rfl rfl (by kernel_rfl) (by kernel_rfl) (by kernel_rfl)) | (refine RE0.memoK (L := [true, false, true, false, false, true, false, true, false, false, false, false, false, false]) (fn := 3) [([true, false, true, false, false, true, false, true, false, false, false, false, false, false], [(1, 1), (3, 2), (6, 3), (8, 4)]), ([true, true, true, false, false, true, false, true, false, false, false, false, false, false], [(3, 5), (6, 6), (8, 7)]), ([true, false, true, true, false, true, false, true, false, false, false, false, false, false], [(1, 5), (6, 8), (8, 9)]), ([true, false, true, false, false, true, true, true, false, false, false, false, false, false], [(1, 6), (3, 8), (8, 10)]), ([true, false, true, false, false, true, false, true, true, false, false, false, false, false], [(1, 7), (3, 9), (6, 10)]), ([true, true, true, true, false, true, false, true, false, false, false, false, false, false], [(4, 11), (6, 12), (8, 13)]), ([true, true, true, false, false, true, true, true, false, false, false, false, false, false], [(3, 12), (8, 14)]), ([true, true, true, false, false, true, false, true, true, false, false, false, false, false], [(3, 13), (6, 14)]), ([true, false, true, true, false, true, true, true, false, false, false, false, false, false], [(1, 12), (8, 15)]), ([true, false, true, true, false, true, false, true, true, false, false, false, false, false], [(1, 13), (6, 15)]), ([true, false, true, false, false, true, true, true, true, false, false, false, false, false], [(1, 14), (3, 15)]), ([true, true, true, true, true, true, false, true, false, false, false, false, false, false], [(6, 16), (8, 17)]), ([true, true, true, true, false, true, true, true, false, false, false, false, false, false], [(4, 16), (8, 18)]), ([true, true, true, true, false, true, false, true, true, false, false, false, false, false], [(4, 17), (6, 18)]), ([true, true, true, false, false, true, true, true, true, false, false, false, false, false], [(3, 18)]), ([true, false, true, true, false, true, true, true, true, false, false, false, false, false], [(1, 18)]), ([true, true, true, true, true, true, true, true, false, false, false, false, false, false], [(8, 19), (10, 20)]), ([true, true, true, true, true, true, false, true, true, false, false, false, false, false], [(6, 19)]), ([true, true, true, true, false, true, true, true, true, false, false, false, false, false], [(4, 19)]), ([true, true, true, true, true, true, true, true, true, false, false, false, false, false], [(9, 21), (10, 22)]), ([true, true, true, true, true, true, true, true, false, false, true, false, false, false], [(8, 22)]), ([true, true, true, true, true, true, true, true, true, true, false, false, false, false], [(10, 23)]), ([true, true, true, true, true, true, true, true, true, false, true, false, false, false], [(9, 23)]), ([true, true, true, true, true, true, true, true, true, true, true, false, false, false], [])] [?_, ?_, ?_, ?_, ?_, ?_, ?_, ?_, ?_, ?_, ?_, ?_, ?_, ?_, ?_, ?_, ?_, ?_, ?_, ?_, ?_, ?_, ?_, ?_] (by kernel_rfl) rfl rfl rfl rfl rfl rfl rfl rfl ?_ ?_ rfl ?_; rotate_left 24)) | (refine RE.id ?_; first | (refine RE.place (t := 28) rfl rfl (fun qb qc => ?_) (fun hz => absurd hz (by simp))) | (refine RE.place (t := 33) rfl rfl (fun qb2 qc2 => ?_) (fun hz => absurd hz (by simp))) | (refine RE.one (L := [true, true, true, true, true, true, true, true, true, true, true, false, false, false]) (i := 11) (fuel := 2) (by kernel_rfl) rfl ?_) | (refine RE.one (L := [true, true, true, true, true, true, true, true, true, true, true, true, false, false]) (i := 12) (fuel := 1) (by kernel_rfl) rfl ?_) | (refine RE.one (L := [true, true, true, true, true, true, true, true, true, true, true, true, true, false]) (i := 13) (fuel := 0) (by kernel_rfl) rfl ?_) | (refine RE.done (L := [true, true, true, true, true, true, true, true, true, true, true, true, true, true]) (by kernel_rfl) ?_)) | (apply Stab.fieldA TYok; exact Ev.auto; exact rfl; exact rfl; exact rfl; exact rfl; exact rfl) | (apply Stab.move; exact Ev.auto) | (apply Stab.loadpa TYok; exact Ev.auto; exact rfl; exact rfl; exact rfl) | exact MNP.nil | (refine MNP.cons ?_ ?_) | exact MGP.nil | (refine MGP.cons rfl rfl rfl ?_ ?_) | exact Le.refl | (refine le_self ?_; refine Le.st rfl (by repeat (first | exact SubEK.nil | refine SubEK.skip rfl ?_ | refine SubEK.one rfl (by first | exact trivial | exact rfl) ?_)) (by repeat (first | exact SubBK.nil | refine SubBK.skip rfl ?_ | refine SubBK.one rfl ?_))) | (refine W.purgeR [(5, [2, 3, 5, 8, 9, 10, 28, 33]), (6, [2, 3, 5, 6, 7, 8, 9, 10, 28, 33])] rfl (by repeat (first | exact PN.nil | apply PN.po rfl | (apply PN.pa; exact rfl; (repeat (first | (apply NR.cons; exact rfl) | exact NR.nil rfl))) | apply PN.a rfl | apply PN.s rfl | apply PN.u rfl | apply PN.m rfl | apply PN.k rfl | apply PN.i rfl | apply PN.skip)) (by repeat (first | exact PB.nil | (apply PB.one; exact rfl; (focus (first | (dsimp only; done) | (dsimp only; exact rfl) | exact rfl)); (focus (first | (dsimp only; done) | (dsimp only; exact rfl) | exact rfl)); exact rfl; (repeat (first | (apply NR.cons; exact rfl) | exact NR.nil rfl)))  | apply PB.cons rfl)) ?_) | ((first | apply U_); (first | (apply Q_callS (.tup [cI U0, .agg [pc0.blur, .int .i64 er0]]) c1; exact rfl; exact Ev.auto; exact LendL.cons LendC.nil (LendL.cons LendC.nil LendL.nil); exact EvL.auto) | (apply Q_litD TYok; apply EvR.cons Ev.auto; (repeat (first | exact EvR.nil | apply EvR.cons Ev.auto)); exact rfl; exact rfl; exact rfl; exact rfl; exact rfl; exact rfl) | exact QX.B TYok | exact QX.Len TYok | exact QX.Idx TYok | exact QX.Ext TYok); exact rfl) | refine SX.Alloc TYok (h := ?_) | refine SX.Store TYok (h := ?_) | (apply S_appendF TYok; exact Ev.auto; exact Ev.auto; exact rfl; exact rfl; exact rfl; exact rfl; exact rfl; exact rfl; exact rfl; exact rfl; (intro r hr; first | (obtain ⟨_, _, rfl⟩ := List.mem_map.1 hr; rfl) | (obtain rfl := List.mem_singleton.1 hr; rfl)); (constructor <;> simp <;> omega); exact rfl; (repeat (first | exact FG.nil | (apply FG.keep; exact rfl; exact rfl) | (apply FG.gone; exact rfl)))) | (apply S_storeO TYok; exact Ev.auto; exact rfl; exact rfl; exact rfl; exact rfl; exact rfl; exact rfl; exact rfl; (first | (focus (simp; done)) | exact Nat.le_of_ble_eq_true rfl)) | refine SC ?_ | (refine W.condA (ht := fun hb => ?_) (hf := fun hb => ?_) <;> (try simp at hb) <;> (try (exfalso; omega))))
          all_goals first
            | (exfalso; omega)
            | (exfalso; rw [hb] at hk; simp at hk; done)
            | (refine ⟨(0 + 1, qb, qc, qb2, qc2), hk, ?_, by (first | omega | (simp only; omega))⟩; dsimp only; simp only [e1, e2]; exact Le.auto)
            | trace_state
      · have hl0 : lets = [] := List.length_eq_zero_iff.1 (by omega)
        subst hl0
        have hu0 : us = [] := List.length_eq_zero_iff.1 (by rw [hu]; rfl)
        subst hu0
        repeat' (first | ((first | apply U_); (first | exact QX.B TYok | exact QX.Len TYok | exact QX.Idx TYok | exact QX.Ext TYok); exact rfl) | refine SX.Alloc TYok (h := ?_) | refine SX.Store TYok (h := ?_) | refine SC ?_ | (refine W.condA (ht := fun hb => ?_) (hf := fun hb => ?_) <;> (try simp at hb) <;> (try (exfalso; omega))))
        all_goals first
          | (exfalso; omega)
          | (refine ⟨_, Le.refl, FinM.ret (ResM.cell rfl rfl rfl rfl ?_ ResM.nil)⟩
             show LSub [_, _] [_, _]
             exact ⟨.nil, .nil, trivial⟩)
          | trace_state
    · dsimp only
      apply W.norm (by repeat (first | exact App.nil | apply App.cons))
      have hk2 : k + 1 ≤ lets.length := hk1
      have hLL : ((lets.take (k + 1)).map encL).length = k + 1 := by simp; omega
      have hUU : ((us.take (k + 1)).map encJ).length = k + 1 := by simp; omega
      by_cases hk : k + 1 < lets.length
      · have c1 := hc (k + 1) hk
        have hu0 := hus (k + 1) hk
        have e1 : (lets.take (k + 1 + 1)).map encL = (lets.take (k + 1)).map encL ++ [encL (nth lets (k + 1))] := by rw [take_nth hk, List.map_append]; rfl
        have e2 : (us.take (k + 1 + 1)).map encJ = (us.take (k + 1)).map encJ ++ [[.int .i64 (nth us (k + 1))]] := by rw [take_nth (by omega), List.map_append]; rfl
        have e3 : ((lets.take (k + 1)).map encL ++ [encL (nth lets (k + 1))]).length = ((lets.take (k + 1)).map encL).length + 1 := by rw [List.length_append]; rfl
        have e4 : ((us.take (k + 1)).map encJ ++ [[Cell.int .i64 (nth us (k + 1))]]).length = ((us.take (k + 1)).map encJ).length + 1 := by rw [List.length_append]; rfl
        generalize nth us (k + 1) = u0 at *
        generalize er (k + 1) = er0 at *
        generalize pc (k + 1) = pc0 at *
        generalize U (k + 1) = U0 at *
        have hu1 : er0 = 0 → U0 = u0 := fun h => by rw [if_pos h] at hu0; exact hu0.symm
        have hu2 : ¬ er0 = 0 → u0 = -1 := fun h => by rw [if_neg h] at hu0; exact hu0
        clear hu0
        rw [show scV (lets.take (k + 1)) (us.take (k + 1)) = .agg [.sl ((lets.take (k + 1)).map encL), .sl ((us.take (k + 1)).map encJ)] from rfl] at c1
        generalize (lets.take (k + 1)).map encL = LL at *
        generalize (us.take (k + 1)).map encJ = UU at *
        by_cases he : er0 = 0
        · have hq := hu1 he
          clear hu1 hu2
          subst hq he
          repeat' (first | (refine W.weaken (Le.freeze1 (m := 5) rfl) ?_) | (refine W.idD ?_; refine W.drawH (id := 8) 14 [false, false, false, false, false, false, false, false, false, false, false, false, false, false] mixed rfl rfl ?_) | (refine RE0.id ?_; first | (apply RE0.take (L := [false, false, false, false, false, false, false, false, false, false, false, false, false, false]) (fuel := 13) 0 rfl rfl rfl rfl (by kernel_rfl) (by kernel_rfl) (by kernel_rfl)) | (apply RE0.take (L := [true, false, false, false, false, false, false, false, false, false, false, false, false, false]) (fuel := 12) 2 rfl rfl rfl rfl (by kernel_rfl) (by kernel_rfl) (by kernel_rfl)) | (apply RE0.take (L := [true, false, true, false, false, false, false, false, false, false, false, false, false, false]) (fuel := 11) 5 rfl rfl rfl rfl (by kernel_rfl) (by kernel_rfl) (by kernel_rfl)) | (apply RE0.take (L := [true, false, true, false, false, true, false, false, false, false, false, false, false, false]) (fuel := 10) 7 rfl rfl rfl rfl (by kernel_rfl) (by kernel_rfl) (by kernel_rfl)) | (refine RE0.memoK (L := [true, false, true, false, false, true, false, true, false, false, false, false, false, false]) (fn := 3) [([true, false, true, false, false, true, false, true, false, false, false, false, false, false], [(1, 1), (3, 2), (6, 3), (8, 4)]), ([true, true, true, false, false, true, false, true, false, false, false, false, false, false], [(3, 5), (6, 6), (8, 7)]), ([true, false, true, true, false, true, false, true, false, false, false, false, false, false], [(1, 5), (6, 8), (8, 9)]), ([true, false, true, false, false, true, true, true, false, false, false, false, false, false], [(1, 6), (3, 8), (8, 10)]), ([true, false, true, false, false, true, false, true, true, false, false, false, false, false], [(1, 7), (3, 9), (6, 10)]), ([true, true, true, true, false, true, false, true, false, false, false, false, false, false], [(4, 11), (6, 12), (8, 13)]), ([true, true, true, false, false, true, true, true, false, false, false, false, false, false], [(3, 12), (8, 14)]), ([true, true, true, false, false, true, false, true, true, false, false, false, false, false], [(3, 13), (6, 14)]), ([true, false, true, true, false, true, true, true, false, false, false, false, false, false], [(1, 12), (8, 15)]), ([true, false, true, true, false, true, false, true, true, false, false, false, false, false], [(1, 13), (6, 15)]), ([true, false, true, false, false, true, true, true, true, false, false, false, false, false], [(1, 14), (3, 15)]), ([true, true, true, true, true, true, false, true, false, false, false, false, false, false], [(6, 16), (8, 17)]), ([true, true, true, true, false, true, true, true, false, false, false, false, false, false], [(4, 16), (8, 18)]), ([true, true, true, true, false, true, false, true, true, false, false, false, false, false], [(4, 17), (6, 18)]), ([true, true, true, false, false, true, true, true, true, false, false, false, false, false], [(3, 18)]), ([true, false, true, true, false, true, true, true, true, false, false, false, false, false], [(1, 18)]), ([true, true, true, true, true, true, true, true, false, false, false, false, false, false], [(8, 19), (10, 20)]), ([true, true, true, true, true, true, false, true, true, false, false, false, false, false], [(6, 19)]), ([true, true, true, true, false, true, true, true, true, false, false, false, false, false], [(4, 19)]), ([true, true, true, true, true, true, true, true, true, false, false, false, false, false], [(9, 21), (10, 22)]), ([true, true, true, true, true, true, true, true, false, false, true, false, false, false], [(8, 22)]), ([true, true, true, true, true, true, true, true, true, true, false, false, false, false], [(10, 23)]), ([true, true, true, true, true, true, true, true, true, false, true, false, false, false], [(9, 23)]), ([true, true, true, true, true, true, true, true, true, true, true, false, false, false], [])] [?_, ?_, ?_, ?_, ?_, ?_, ?_, ?_, ?_, ?_, ?_, ?_, ?_, ?_, ?_, ?_, ?_, ?_, ?_, ?_, ?_, ?_, ?_, ?_] (by kernel_rfl) rfl rfl rfl rfl rfl rfl rfl rfl ?_ ?_ rfl ?_; rotate_left 24)) | (refine RE.id ?_; first | (refine RE.place (t := 28) rfl rfl (fun qb qc => ?_) (fun hz => absurd hz (by simp))) | (refine RE.place (t := 33) rfl rfl (fun qb2 qc2 => ?_) (fun hz => absurd hz (by simp))) | (refine RE.one (L := [true, true, true, true, true, true, true, true, true, true, true, false, false, false]) (i := 11) (fuel := 2) (by kernel_rfl) rfl ?_) | (refine RE.one (L := [true, true, true, true, true, true, true, true, true, true, true, true, false, false]) (i := 12) (fuel := 1) (by kernel_rfl) rfl ?_) | (refine RE.one (L := [true, true, true, true, true, true, true, true, true, true, true, true, true, false]) (i := 13) (fuel := 0) (by kernel_rfl) rfl ?_) | (refine RE.done (L := [true, true, true, true, true, true, true, true, true, true, true, true, true, true]) (by kernel_rfl) ?_)) | (apply Stab.fieldA TYok; exact Ev.auto; exact rfl; exact rfl; exact rfl; exact rfl; exact rfl) | (apply Stab.move; exact Ev.auto) | (apply Stab.loadpa TYok; exact Ev.auto; exact rfl; exact rfl; exact rfl) | exact MNP.nil | (refine MNP.cons ?_ ?_) | exact MGP.nil | (refine MGP.cons rfl rfl rfl ?_ ?_) | exact Le.refl | (refine le_self ?_; refine Le.st rfl (by repeat (first | exact SubEK.nil | refine SubEK.skip rfl ?_ | refine SubEK.one rfl (by first | exact trivial | exact rfl) ?_)) (by repeat (first | exact SubBK.nil | refine SubBK.skip rfl ?_ | refine SubBK.one rfl ?_))) | (refine W.purgeR [(5, [2, 3, 5, 8, 9, 10, 28, 33]), (6, [2, 3, 5, 6, 7, 8, 9, 10, 28, 33])] rfl (by repeat (first | exact PN.nil | apply PN.po rfl | (apply PN.pa; exact rfl; (repeat (first | (apply NR.cons; exact rfl) | exact NR.nil rfl))) | apply PN.a rfl | apply PN.s rfl | apply PN.u rfl | apply PN.m rfl | apply PN.k rfl | apply PN.i rfl | apply PN.skip)) (by repeat (first | exact PB.nil | (apply PB.one; exact rfl; (focus (first | (dsimp only; done) | (dsimp only; exact rfl) | exact rfl)); (focus (first | (dsimp only; done) | (dsimp only; exact rfl) | exact rfl)); exact rfl; (repeat (first | (apply NR.cons; exact rfl) | exact NR.nil rfl)))  | apply PB.cons rfl)) ?_) | ((first | apply U_); (first | (apply Q_callS (.tup [cI U0, .agg [pc0.blur, .int .i64 0]]) c1; exact rfl; exact Ev.auto; exact LendL.cons (LendC.pin 28 rfl rfl rfl rfl rfl) (LendL.cons (LendC.pin 33 rfl rfl rfl rfl rfl) LendL.nil); exact EvL.auto) | (apply Q_loadO TYok (tt := 33); exact rfl; exact rfl; exact rfl; exact rfl; exact rfl; exact rfl; exact Ev.auto; exact rfl; exact rfl; exact rfl; (first | exact rfl | (focus (simp; done)))) | (apply Q_loadO TYok (tt := 28); exact rfl; exact rfl; exact rfl; exact rfl; exact rfl; exact rfl; exact Ev.auto; exact rfl; exact rfl; exact rfl; (first | exact rfl | (focus (simp; done)))) | (apply Q_litD TYok; apply EvR.cons Ev.auto; (repeat (first | exact EvR.nil | apply EvR.cons Ev.auto)); exact rfl; exact rfl; exact rfl; exact rfl; exact rfl; exact rfl) | exact QX.B TYok | exact QX.Len TYok | exact QX.Idx TYok | exact QX.Ext TYok); exact rfl) | refine SX.Alloc TYok (h := ?_) | refine SX.Store TYok (h := ?_) | (apply S_appendF TYok; exact Ev.auto; exact Ev.auto; exact rfl; exact rfl; exact rfl; exact rfl; exact rfl; exact rfl; exact rfl; exact rfl; (intro r hr; first | (obtain ⟨_, _, rfl⟩ := List.mem_map.1 hr; rfl) | (obtain rfl := List.mem_singleton.1 hr; rfl)); (constructor <;> simp <;> omega); exact rfl; (repeat (first | exact FG.nil | (apply FG.keep; exact rfl; exact rfl) | (apply FG.gone; exact rfl)))) | (apply S_storeO TYok; exact Ev.auto; exact rfl; exact rfl; exact rfl; exact rfl; exact rfl; exact rfl; exact rfl; (first | (focus (simp; done)) | exact Nat.le_of_ble_eq_true rfl)) | refine SC ?_ | (refine W.condA (ht := fun hb => ?_) (hf := fun hb => ?_) <;> (try simp at hb) <;> (try (exfalso; omega))))
          all_goals first
            | (exfalso; omega)
            | (exfalso; rw [hb] at hk; simp at hk; done)
            | (refine ⟨(k + 1 + 1, qb, qc, qb2, qc2), hk, ?_, by (first | omega | (simp only; omega))⟩; dsimp only; simp only [e1, e2]; exact Le.auto)
            | trace_state
        · have hq := hu2 he
          clear hu1 hu2
          subst hq
          repeat' (first | (refine W.weaken (Le.freeze1 (m := 5) rfl) ?_) | (refine W.idD ?_; refine W.drawH (id := 8) 14 [false, false, false, false, false, false, false, false, false, false, false, false, false, false] mixed rfl rfl ?_) | (refine RE0.id ?_; first | (apply RE0.take (L := [false, false, false, false, false, false, false, false, false, false, false, false, false, false]) (fuel := 13) 0 rfl rfl rfl rfl (by kernel_rfl) (by kernel_rfl) (by kernel_rfl)) | (apply RE0.take (L := [true, false, false, false, false, false, false, false, false, false, false, false, false, false]) (fuel := 12) 2 rfl rfl rfl rfl (by kernel_rfl) (by kernel_rfl) (by kernel_rfl)) | (apply RE0.take (L := [true, false, true, false, false, false, false, false, false, false, false, false, false, false]) (fuel := 11) 5 rfl rfl rfl rfl (by kernel_rfl) (by kernel_rfl) (by kernel_rfl)) | (apply RE0.take (L := [true, false, true, false, false, true, false, false, false, false, false, false, false, false]) (fuel := 10) 7 rfl rfl rfl rfl (by kernel_rfl) (by kernel_rfl) (by kernel_rfl)) | (refine RE0.memoK (L := [true, false, true, false, false, true, false, true, false, false, false, false, false, false]) (fn := 3) [([true, false, true, false, false, true, false, true, false, false, false, false, false, false], [(1, 1), (3, 2), (6, 3), (8, 4)]), ([true, true, true, false, false, true, false, true, false, false, false, false, false, false], [(3, 5), (6, 6), (8, 7)]), ([true, false, true, true, false, true, false, true, false, false, false, false, false, false], [(1, 5), (6, 8), (8, 9)]), ([true, false, true, false, false, true, true, true, false, false, false, false, false, false], [(1, 6), (3, 8), (8, 10)]), ([true, false, true, false, false, true, false, true, true, false, false, false, false, false], [(1, 7), (3, 9), (6, 10)]), ([true, true, true, true, false, true, false, true, false, false, false, false, false, false], [(4, 11), (6, 12), (8, 13)]), ([true, true, true, false, false, true, true, true, false, false, false, false, false, false], [(3, 12), (8, 14)]), ([true, true, true, false, false, true, false, true, true, false, false, false, false, false], [(3, 13), (6, 14)]), ([true, false, true, true, false, true, true, true, false, false, false, false, false, false], [(1, 12), (8, 15)]), ([true, false, true, true, false, true, false, true, true, false, false, false, false, false], [(1, 13), (6, 15)]), ([true, false, true, false, false, true, true, true, true, false, false, false, false, false], [(1, 14), (3, 15)]), ([true, true, true, true, true, true, false, true, false, false, false, false, false, false], [(6, 16), (8, 17)]), ([true, true, true, true, false, true, true, true, false, false, false, false, false, false], [(4, 16), (8, 18)]), ([true, true, true, true, false, true, false, true, true, false, false, false, false, false], [(4, 17), (6, 18)]), ([true, true, true, false, false, true, true, true, true, false, false, false, false, false], [(3, 18)]), ([true, false, true, true, false, true, true, true, true, false, false, false, false, false], [(1, 18)]), ([true, true, true, true, true, true, true, true, false, false, false, false, false, false], [(8, 19), (10, 20)]), ([true, true, true, true, true, true, false, true, true, false, false, false, false, false], [(6, 19)]), ([true, true, true, true, false, true, true, true, true, false, false, false, false, false], [(4, 19)]), ([true, true, true, true, true, true, true, true, true, false, false, false, false, false], [(9, 21), (10, 22)]), ([true, true, true, true, true, true, true, true, false, false, true, false, false, false], [(8, 22)]), ([true, true, true, true, true, true, true, true, true, true, false, false, false, false], [(10, 23)]), ([true, true, true, true, true, true, true, true, true, false, true, false, false, false], [(9, 23)]), ([true, true, true, true, true, true, true, true, true, true, true, false, false, false], [])] [?_, ?_, ?_, ?_, ?_, ?_, ?_, ?_, ?_, ?_, ?_, ?_, ?_, ?_, ?_, ?_, ?_, ?_, ?_, ?_, ?_, ?_, ?_, ?_] (by kernel_rfl) rfl rfl rfl rfl rfl rfl rfl rfl ?_ ?_ rfl ?_; rotate_left 24)) | (refine RE.id ?_; first | (refine RE.place (t := 28) rfl rfl (fun qb qc => ?_) (fun hz => absurd hz (by simp))) | (refine RE.place (t := 33) rfl rfl (fun qb2 qc2 => ?_) (fun hz => absurd hz (by simp))) | (refine RE.one (L := [true, true, true, true, true, true, true, true, true, true, true, false, false, false]) (i := 11) (fuel := 2) (by kernel_rfl) rfl ?_) | (refine RE.one (L := [true, true, true, true, true, true, true, true, true, true, true, true, false, false]) (i := 12) (fuel := 1) (by kernel_rfl) rfl ?_) | (refine RE.one (L := [true, true, true, true, true, true, true, true, true, true, true, true, true, false]) (i := 13) (fuel := 0) (by kernel_rfl) rfl ?_) | (refine RE.done (L := [true, true, true, true, true, true, true, true, true, true, true, true, true, true]) (by kernel_rfl) ?_)) | (apply Stab.fieldA TYok; exact Ev.auto; exact rfl; exact rfl; exact rfl; exact rfl; exact rfl) | (apply Stab.move; exact Ev.auto) | (apply Stab.loadpa TYok; exact Ev.auto; exact rfl; exact rfl; exact rfl) | exact MNP.nil | (refine MNP.cons ?_ ?_) | exact MGP.nil | (refine MGP.cons rfl rfl rfl ?_ ?_) | exact Le.refl | (refine le_self ?_; refine Le.st rfl (by repeat (first | exact SubEK.nil | refine SubEK.skip rfl ?_ | refine SubEK.one rfl (by first | exact trivial | exact rfl) ?_)) (by repeat (first | exact SubBK.nil | refine SubBK.skip rfl ?_ | refine SubBK.one rfl ?_))) | (refine W.purgeR [(5, [2, 3, 5, 8, 9, 10, 28, 33]), (6, [2, 3, 5, 6, 7, 8, 9, 10, 28, 33])] rfl (by repeat (first | exact PN.nil | apply PN.po rfl | (apply PN.pa; exact rfl; (repeat (first | (apply NR.cons; exact rfl) | exact NR.nil rfl))) | apply PN.a rfl | apply PN.s rfl | apply PN.u rfl | apply PN.m rfl | apply PN.k rfl | apply PN.i rfl | apply PN.skip)) (by repeat (first | exact PB.nil | (apply PB.one; exact rfl; (focus (first | (dsimp only; done) | (dsimp only; exact rfl) | exact rfl)); (focus (first | (dsimp only; done) | (dsimp only; exact rfl) | exact rfl)); exact rfl; (repeat (first | (apply NR.cons; exact rfl) | exact NR.nil rfl)))  | apply PB.cons rfl)) ?_) | ((first | apply U_); (first | (apply Q_callS (.tup [cI U0, .agg [pc0.blur, .int .i64 er0]]) c1; exact rfl; exact Ev.auto; exact LendL.cons (LendC.pin 28 rfl rfl rfl rfl rfl) (LendL.cons (LendC.pin 33 rfl rfl rfl rfl rfl) LendL.nil); exact EvL.auto) | (apply Q_loadO TYok (tt := 33); exact rfl; exact rfl; exact rfl; exact rfl; exact rfl; exact rfl; exact Ev.auto; exact rfl; exact rfl; exact rfl; (first | exact rfl | (focus (simp; done)))) | (apply Q_loadO TYok (tt := 28); exact rfl; exact rfl; exact rfl; exact rfl; exact rfl; exact rfl; exact Ev.auto; exact rfl; exact rfl; exact rfl; (first | exact rfl | (focus (simp; done)))) | (apply Q_litD TYok; apply EvR.cons Ev.auto; (repeat (first | exact EvR.nil | apply EvR.cons Ev.auto)); exact rfl; exact rfl; exact rfl; exact rfl; exact rfl; exact rfl) | exact QX.B TYok | exact QX.Len TYok | exact QX.Idx TYok | exact QX.Ext TYok); exact rfl) | refine SX.Alloc TYok (h := ?_) | refine SX.Store TYok (h := ?_) | (apply S_appendF TYok; exact Ev.auto; exact Ev.auto; exact rfl; exact rfl; exact rfl; exact rfl; exact rfl; exact rfl; exact rfl; exact rfl; (intro r hr; first | (obtain ⟨_, _, rfl⟩ := List.mem_map.1 hr; rfl) | (obtain rfl := List.mem_singleton.1 hr; rfl)); (constructor <;> simp <;> omega); exact rfl; (repeat (first | exact FG.nil | (apply FG.keep; exact rfl; exact rfl) | (apply FG.gone; exact rfl)))) | (apply S_storeO TYok; exact Ev.auto; exact rfl; exact rfl; exact rfl; exact rfl; exact rfl; exact rfl; exact rfl; (first | (focus (simp; done)) | exact Nat.le_of_ble_eq_true rfl)) | refine SC ?_ | (refine W.condA (ht := fun hb => ?_) (hf := fun hb => ?_) <;> (try simp at hb) <;> (try (exfalso; omega))))
          all_goals first
            | (exfalso; omega)
            | (exfalso; rw [hb] at hk; simp at hk; done)
            | (refine ⟨(k + 1 + 1, qb, qc, qb2, qc2), hk, ?_, by (first | omega | (simp only; omega))⟩; dsimp only; simp only [e1, e2]; exact Le.auto)
            | trace_state
      · have hl1 : k + 1 = lets.length := by omega
        have n1 : lets.take (k + 1) = lets := List.take_of_length_le (by omega)
        have n2 : us.take (k + 1) = us := List.take_of_length_le (by omega)
        simp only [n1, n2] at hLL hUU ⊢
        repeat' (first | ((first | apply U_); (first | exact QX.B TYok | exact QX.Len TYok | exact QX.Idx TYok | exact QX.Ext TYok); exact rfl) | refine SX.Store TYok (h := ?_) | refine SC ?_ | (refine W.condA (ht := fun hb => ?_) (hf := fun hb => ?_) <;> (try simp at hb) <;> (try (exfalso; omega))))
        all_goals first
          | (exfalso; omega)
          | exact ⟨_, Le.freezeS (row' := [.sl (lets.map encL), .sl (us.map encJ)]) (m := 2) rfl rfl rfl (LendL.cons (LendC.pin 28 rfl rfl rfl rfl rfl) (LendL.cons (LendC.pin 33 rfl rfl rfl rfl rfl) LendL.nil)), FinM.ret ResM.auto⟩
          | trace_state
end
end Go.Proofs.YtjedkgogjehigaaGreat
end
section
set_option linter.unusedVariables false
set_option linter.unusedSimpArgs false
set_option maxHeartbeats 8000000
set_option linter.unusedSectionVars false
namespace Go.Proofs.YtjedkgogjehigaaGreat
open Lf Go
attribute [local irreducible] PureOp EffOp Ev RG W Then InBlock Lf.Fin nth App InitE Pick SubE EvL EvD EvP EvR ResL Lf.Lex SubR SubBR RA RAll EvC FinO FinM ResM ResD FinS val pw digs trimL
section
theorem KI : KeyK Tryz.prog 3 kI := KeyK.int (by kernel_rfl)
theorem mget_mput {γ : Type} : ∀ (M : List (Int × γ)) (k s : Int) (v : γ), mget (mput M k v) s = if k = s then some v else mget M s
  | [], k, s, v => by rw [mput, mget, mget]; split <;> rfl
  | (j, y) :: r, k, s, v => by
    rw [mput]
    by_cases h : j = k
    · subst h
      rw [if_pos rfl, mget, mget]
      by_cases h2 : j = s
      · rw [if_pos h2, if_pos h2]
      · rw [if_neg h2, if_neg h2]; simp [h2]
    · rw [if_neg h, mget, mget, mget_mput r k s v]
      by_cases h2 : j = s
      · subst h2; rw [if_pos rfl, if_neg (Ne.symm h), if_pos rfl]
      · rw [if_neg h2, if_neg h2]
/-- what the pointer shows -/
abbrev cellsR (lets : List Let) (en : EnvQ) (b : Nat) : List Cell := [.sl (lets.map encL), .sl (en.names.map encS), .sl (en.vals.map encQ), .sl (en.iss.map encS), .sl (en.rates.map encQ), .mpa b]
def InvM (lets : List Let) (en : EnvQ) (M : List (Int × Rat)) : Prop := ∀ k v, mget M k = some v → 0 ≤ k ∧ k < lets.length ∧ nth (tabF lets en lets.length) k.toNat = .ok v
def InvR (lets : List Let) (en : EnvQ) (rows : List (List Cell)) : Prop := ∃ M : List (Int × Rat), rows = M.map (mrow kI encQ) ∧ InvM lets en M
theorem name1_ok (y : Let) (s : Str) : ACalls Tryz.prog 67 [aL y, .one (.ptr [.str s])] (.pv (cB (nameEq s y))) := by
  unfold nameEq
  refine ACalls.of_W (qs := [cB (decide (y.name = s))]) [3] 8 Tryz.func67 (by kernel_rfl) rfl rfl rfl fun G => ?_
  refine W.initA (hw := ?_)
  repeat' (first | ((first | apply U_); (first | exact QX.B TYok); exact rfl) | refine SX.Box TYok (h := ?_) | refine SC ?_ | (apply S_isnil TYok; exact rfl; exact rfl; exact rfl; exact Ev.auto; intro bn hnil) | (refine W.condA (ht := fun hb => ?_) (hf := fun hb => ?_) <;> (try simp at hb) <;> (try (exfalso; omega))))
  all_goals exact Fin.ret ResL.auto
theorem take_map {α : Type} {f : α → List Cell} (l : List α) (n : Nat) : (l.map f).take n = (l.take n).map f := (List.map_take).symm
variable {lets : List Let} {en : EnvQ}
abbrev VCalls (lets : List Let) (en : EnvQ) (f : Nat) (args : List PV) (R : Rs) : Prop := PCalls Tryz.prog f 4 (fun b => .one (.ptr (cellsR lets en b)) :: args) (resP R) (InvR lets en)
attribute [local irreducible] sgn mag gcdZ quoZ remZ fullZ fullE
theorem Q_lookS {P : Program} {G : Ghost} {T : TT} (hT : TOK P T) {n0 : Nat} {env : List (Nat × (Prop × AV))} {bl : List (Nat × Blk)} {p : Prop} {dst : Option Nat} {ty : TypeId} {pos : String} {after : Array Edge} {gd : Option (Nat × Bool)} {α γ : Type} [DecidableEq α] {kc : α → Cell} {kt : TypeId}
    (K : KeyK P kt kc) {t e n z : Nat} {m x : Operand} {ti te : TI} {vc : γ → List Cell} {M : List (α × γ)} {k : α} {v : γ} (hg : mget M k = some v) (hm : Ev (St.mk n0 env bl) p m (.mp n)) (hl : lk bl n = some ⟨mapTag, z, M.map (mrow kc vc)⟩)
    (hx : Ev (St.mk n0 env bl) p x (.pv (.one (kc k)))) (ht : T t = some ti) (hk : ti.kind = .map kt e) (he : T e = some te) : PureOp P G (St.mk n0 env bl) ⟨dst, .lookup t m x true, ty, pos, after, gd⟩ p (.tup [mapPV z (vc v), .one (.bool true)]) := by
  have := Q_lookup (G := G) (dst := dst) (ty := ty) (pos := pos) (after := after) (gd := gd) hT K (c := true) (vc := vc) (M := M) (k := k) (r := mapPV z (vc v)) hm hl hx ht hk he (by rw [hg])
  rw [hg] at this
  exact this
theorem Q_lookN {P : Program} {G : Ghost} {T : TT} (hT : TOK P T) {n0 : Nat} {env : List (Nat × (Prop × AV))} {bl : List (Nat × Blk)} {p : Prop} {dst : Option Nat} {ty : TypeId} {pos : String} {after : Array Edge} {gd : Option (Nat × Bool)} {α γ : Type} [DecidableEq α] {kc : α → Cell} {kt : TypeId}
    (K : KeyK P kt kc) {t e n z : Nat} {m x : Operand} {ti te : TI} {vc : γ → List Cell} {M : List (α × γ)} {k : α} (hg : mget M k = none) (hm : Ev (St.mk n0 env bl) p m (.mp n)) (hl : lk bl n = some ⟨mapTag, z, M.map (mrow kc vc)⟩)
    (hx : Ev (St.mk n0 env bl) p x (.pv (.one (kc k)))) (ht : T t = some ti) (hk : ti.kind = .map kt e) (he : T e = some te) : PureOp P G (St.mk n0 env bl) ⟨dst, .lookup t m x true, ty, pos, after, gd⟩ p (.tup [te.zero, .one (.bool false)]) := by
  have := Q_lookup (G := G) (dst := dst) (ty := ty) (pos := pos) (after := after) (gd := gd) hT K (c := true) (vc := vc) (M := M) (k := k) (r := te.zero) hm hl hx ht hk he (by rw [hg])
  rw [hg] at this
  exact this
theorem indexN_ok (hL : LetsOk lets) (n : Nat) (hn : n ≤ lets.length) (s : Str) : ACalls Tryz.prog 39 [.one (.sl ((lets.map encL).take n)), .one (.fn 67 [.ptr [.str s]])] (.pv (cI (fidx (nameEq s) (lets.take n)))) := by
  rw [take_map]
  exact indexL_ok (lets.take n) 67 [.ptr [.str s]] (nameEq s) (by rw [List.length_take]; have := hL.1; omega) (fun x _ => name1_ok x s)
theorem name_none (hL : LetsOk lets) (n : Nat) (hn : n ≤ lets.length) (s : Str) (h : (lets.take n).any (nameEq s) = false) : VCalls lets en 44 [cS s, cI n] (.err 14) := by
  have h1 := indexN_ok hL n hn s
  rw [fidx_miss h] at h1
  have hlen := hL.1
  refine PCalls.of_M TYok (z := 4) (qs := [zF0, cI 14]) [.cell 6 40, .tmp 7] 59 Tryz.func44 (by kernel_rfl) rfl rfl rfl fun G b rows hI => ?_
  simp only [St.initP, initEnv, Nat.reduceAdd, List.cons_append, List.nil_append]
  repeat' (first | (refine W.weaken (Le.freeze1 (m := 4) rfl) ?_) | ((first | apply U_ | apply Lex.u | (apply Lex.g; exact rfl; exact rfl) | (apply Lex.gq; exact rfl; exact rfl)); (first | exact QX.B TYok | exact QX.Nil TYok | exact QX.Idx TYok | exact QX.Ext TYok | exact QX.Build TYok | exact QX.Fun TYok | exact QX.Cut TYok | exact QCd (h1)); exact rfl) | refine SX.Alloc TYok (h := ?_) | refine SX.Store TYok (h := ?_) | refine SX.Box TYok (h := ?_) | refine SC ?_ | (apply S_isnil TYok; exact rfl; exact rfl; exact rfl; exact Ev.auto; intro bn hnil) | (apply W.draw2 (id := 9) [0, 1, 3, 7, 0, 0, 63] [[0], [51], [52], [53], [8], [11]] 6 [(51, 1), (52, 2251799813685248), (53, 4503599627370496), (54, 9007199254740992), (55, 256), (56, 2048)] mixed (by kernel_rfl) rfl rfl) | (refine W.condA (ht := fun hb => ?_) (hf := fun hb => ?_) <;> (try simp at hb) <;> (try (exfalso; omega))))
  all_goals exact FinP.ret 1000000 rfl hI rfl (ResM.cell rfl rfl rfl rfl zeroSubF (ResM.tmp rfl rfl PSub.rfl' ResM.nil))
theorem hit_ix {n i : Nat} {s : Str} (hn : n ≤ lets.length) (h : (lets.take n).any (nameEq s) = true) (hi : (lets.take n).findIdx (nameEq s) = i) : i < n := by
  have := List.findIdx_lt_length_of_exists (List.any_eq_true.1 h)
  rw [List.length_take] at this
  omega
theorem name_hit (hL : LetsOk lets) (n : Nat) (hn : n ≤ lets.length) (s : Str) (i : Nat) (h : (lets.take n).any (nameEq s) = true) (hi : (lets.take n).findIdx (nameEq s) = i)
    (R : Rs) (hR : nth (tabF lets en lets.length) i = R) (hf : R.fit) (hV : VCalls lets en 24 [aE (nth lets i).body, cI i] R) : VCalls lets en 44 [cS s, cI n] R := by
  have h1 := indexN_ok hL n hn s
  rw [fidx, if_pos h, hi] at h1
  have hlen := hL.1
  have hin := hit_ix hn h hi
  cases R with
  | err e =>
    have he : e ≠ 0 := hf
    replace hV : PCalls Tryz.prog 24 4 (fun b => [.one (.ptr (cellsR lets en b)), aE (nth lets i).body, cI i]) (.tup [zF0, cI e]) (InvR lets en) := hV
    show PCalls Tryz.prog 44 4 (fun b => [.one (.ptr (cellsR lets en b)), cS s, cI n]) (.tup [zF0, cI e]) (InvR lets en)
    refine PCalls.of_M TYok (z := 4) (qs := [zF0, cI e]) [.cell 6 40, .tmp 7] 59 Tryz.func44 (by kernel_rfl) rfl rfl rfl fun G b rows hI => ?_
    simp only [St.initP, initEnv, Nat.reduceAdd, List.cons_append, List.nil_append]
    obtain ⟨M, rfl, hM⟩ := hI
    cases hg : mget M (i : Int) with
    | some v => have := (hM _ _ hg).2.2; rw [Int.toNat_natCast, hR] at this; cases this
    | none =>
      repeat' (first | (refine W.weaken (Le.freeze1 (m := 4) rfl) ?_) | ((first | apply U_ | apply Lex.u | (apply Lex.g; exact rfl; exact rfl) | (apply Lex.gq; exact rfl; exact rfl)); (first | (apply Q_lookN TYok KI (vc := encQ) hg; exact Ev.auto; exact rfl; exact Ev.auto; exact rfl; exact rfl; exact rfl) | (apply Q_loadMp TYok (g := 1000000); exact rfl; exact rfl; exact rfl; exact rfl; exact rfl; exact Ev.auto) | exact QX.B TYok | exact QX.Nil TYok | exact QX.Idx TYok | exact QX.Ext TYok | exact QX.Build TYok | exact QX.Fun TYok | exact QX.Cut TYok | exact QCd (h1)); exact rfl) | refine SX.Alloc TYok (h := ?_) | refine SX.Store TYok (h := ?_) | refine SX.Box TYok (h := ?_) | (apply S_callp (hV) (g := 1000000); exact rfl; exact rfl; exact rfl; exact rfl; (first | assumption | exact ⟨_, rfl, by assumption⟩); exact EvD.auto; intro _ hI2) | refine SC ?_ | (apply S_isnil TYok; exact rfl; exact rfl; exact rfl; exact Ev.auto; intro bn hnil) | (apply W.draw2 (id := 9) [0, 1, 3, 7, 0, 0, 63] [[0], [51], [52], [53], [8], [11]] 6 [(51, 1), (52, 2251799813685248), (53, 4503599627370496), (54, 9007199254740992), (55, 256), (56, 2048)] mixed (by kernel_rfl) rfl rfl) | (refine W.condA (ht := fun hb => ?_) (hf := fun hb => ?_) <;> (try simp at hb) <;> (try (exfalso; omega))))
      all_goals first
        | exact FinP.ret 1000000 rfl hI2 rfl ResM.auto
        | trace_state
  | ok v =>
    have he : okF v := hf
    replace hV : PCalls Tryz.prog 24 4 (fun b => [.one (.ptr (cellsR lets en b)), aE (nth lets i).body, cI i]) (.tup [zF v, cI 0]) (InvR lets en) := hV
    show PCalls Tryz.prog 44 4 (fun b => [.one (.ptr (cellsR lets en b)), cS s, cI n]) (.tup [zF v, cI 0]) (InvR lets en)
    refine PCalls.of_M TYok (z := 4) (qs := [zF v, cI 0]) [.cell 6 40, .tmp 7] 59 Tryz.func44 (by kernel_rfl) rfl rfl rfl fun G b rows hI => ?_
    simp only [St.initP, initEnv, Nat.reduceAdd, List.cons_append, List.nil_append]
    obtain ⟨M, rfl, hM⟩ := hI
    have hput : ∀ M2, InvM lets en M2 → InvR lets en ((mput M2 (i : Int) v).map (mrow kI encQ)) := fun M2 h2 => ⟨_, rfl, fun k w hk => by
      rw [mget_mput] at hk
      split at hk
      · rename_i e
        subst e
        obtain rfl := Option.some.inj hk
        exact ⟨by omega, by omega, by rw [Int.toNat_natCast]; exact hR⟩
      · exact h2 k w hk⟩
    cases hg : mget M (i : Int) with
    | some w =>
      have := (hM _ _ hg).2.2
      rw [Int.toNat_natCast, hR] at this
      obtain rfl : v = w := by cases this; rfl
      repeat' (first | (refine W.weaken (Le.freeze1 (m := 4) rfl) ?_) | ((first | apply U_ | apply Lex.u | (apply Lex.g; exact rfl; exact rfl) | (apply Lex.gq; exact rfl; exact rfl)); (first | (apply Q_lookS TYok KI (vc := encQ) hg; exact Ev.auto; exact rfl; exact Ev.auto; exact rfl; exact rfl; exact rfl) | (apply Q_loadMp TYok (g := 1000000); exact rfl; exact rfl; exact rfl; exact rfl; exact rfl; exact Ev.auto) | exact QX.B TYok | exact QX.Nil TYok | exact QX.Idx TYok | exact QX.Ext TYok | exact QX.Build TYok | exact QX.Fun TYok | exact QX.Cut TYok | exact QCd (h1)); exact rfl) | refine SX.Alloc TYok (h := ?_) | refine SX.Store TYok (h := ?_) | refine SX.Box TYok (h := ?_) | refine SC ?_ | (apply S_isnil TYok; exact rfl; exact rfl; exact rfl; exact Ev.auto; intro bn hnil) | (apply W.draw2 (id := 9) [0, 1, 3, 7, 0, 0, 63] [[0], [51], [52], [53], [8], [11]] 6 [(51, 1), (52, 2251799813685248), (53, 4503599627370496), (54, 9007199254740992), (55, 256), (56, 2048)] mixed (by kernel_rfl) rfl rfl) | (refine W.condA (ht := fun hb => ?_) (hf := fun hb => ?_) <;> (try simp at hb) <;> (try (exfalso; omega))))
      all_goals first
        | exact FinP.ret 1000000 rfl ⟨M, rfl, hM⟩ rfl ResM.auto
        | trace_state
    | none =>
      repeat' (first | (refine W.weaken (Le.freeze1 (m := 4) rfl) ?_) | ((first | apply U_ | apply Lex.u | (apply Lex.g; exact rfl; exact rfl) | (apply Lex.gq; exact rfl; exact rfl)); (first | (apply Q_lookN TYok KI (vc := encQ) hg; exact Ev.auto; exact rfl; exact Ev.auto; exact rfl; exact rfl; exact rfl) | (apply Q_loadMp TYok (g := 1000000); exact rfl; exact rfl; exact rfl; exact rfl; exact rfl; exact Ev.auto) | exact QX.B TYok | exact QX.Nil TYok | exact QX.Idx TYok | exact QX.Ext TYok | exact QX.Build TYok | exact QX.Fun TYok | exact QX.Cut TYok | exact QCd (h1)); exact rfl) | refine SX.Alloc TYok (h := ?_) | refine SX.Store TYok (h := ?_) | refine SX.Box TYok (h := ?_) | (apply S_callp (hV) (g := 1000000); exact rfl; exact rfl; exact rfl; exact rfl; (first | assumption | exact ⟨_, rfl, by assumption⟩); exact EvD.auto; (intro _ hI2; obtain ⟨M2, rfl, hM2⟩ := hI2)) | (apply S_mapUpdate TYok KI (vc := encQ) (v := v); exact Ev.auto; exact rfl; exact Ev.auto; exact Ev.auto; exact rfl; exact rfl; exact rfl) | refine SC ?_ | (apply S_isnil TYok; exact rfl; exact rfl; exact rfl; exact Ev.auto; intro bn hnil) | (apply W.draw2 (id := 9) [0, 1, 3, 7, 0, 0, 63] [[0, 1000000], [51, 1000000], [52, 1000000], [53, 1000000], [8, 1000000], [11, 1000000]] 6 [(51, 1), (52, 2251799813685248), (53, 4503599627370496), (54, 9007199254740992), (55, 256), (56, 2048)] mixed (by kernel_rfl) rfl rfl) | (refine W.condA (ht := fun hb => ?_) (hf := fun hb => ?_) <;> (try simp at hb) <;> (try (exfalso; omega))))
      all_goals first
        | exact FinP.ret 1000000 rfl (hput _ hM2) rfl ResM.auto
        | trace_state
end
end Go.Proofs.YtjedkgogjehigaaGreat
end
section
set_option linter.unusedVariables false
set_option linter.unusedSimpArgs false
set_option maxHeartbeats 8000000
set_option linter.unusedSectionVars false
namespace Go.Proofs.YtjedkgogjehigaaGreat
open Lf Go
attribute [local irreducible] PureOp EffOp Ev RG W Then InBlock Lf.Fin nth App InitE Pick SubE EvL EvD EvP EvR ResL Lf.Lex SubR SubBR RA RAll EvC FinO FinM ResM ResD FinS val pw digs trimL
section
variable {lets : List Let} {en : EnvQ}
theorem vname_ok (hL : LetsOk lets) (he : en.Ok) (n : Nat) (hn : n ≤ lets.length) (s : Str) (ih : ∀ i, i < n → VCalls lets en 24 [aE (nth lets i).body, cI (i : Int)] (valF lets en i (nth lets i).body)) : VCalls lets en 44 [cS s, cI (n : Int)] (lookN lets (tabF lets en n) s) := by
  unfold lookN
  rw [tabF_len]
  by_cases h : (lets.take n).any (nameEq s) = true
  · rw [if_pos h]
    have hin := hit_ix hn h rfl
    have e1 := tabF_nth lets en hin
    have e2 := tabF_nth lets en (show (lets.take n).findIdx (nameEq s) < lets.length by omega)
    have hf := tabF_fit he hL n hn _ (nth_mem (l := tabF lets en n) (k := (lets.take n).findIdx (nameEq s)) (by rw [tabF_len]; exact hin))
    refine name_hit hL n hn s _ h rfl _ (by rw [e1, e2]) hf ?_
    rw [e1]
    exact ih _ hin
  · rw [if_neg h]
    exact name_none hL n hn s (by simpa using h)
attribute [local irreducible] sgn mag gcdZ quoZ remZ fullZ fullE
abbrev aOp (op k u : Int) (s : Str) (l : List Exp) : PV := .agg [.int .i64 op, .int .i64 k, .int .i64 u, .str s, .sl (l.map encX)]
variable {op k u : Int} {s : Str} {l : List Exp} {n : Nat}
theorem v_num (r : Rat) (h : ACalls Tryz.prog 43 [cI k, cI (if u = 2 then 1000 else 1)] (.tup [zF r, cI 0])) : VCalls lets en 24 [aOp 0 k u s l, cI (n : Int)] (.ok r) := by
  show PCalls Tryz.prog 24 4 (fun b => [.one (.ptr (cellsR lets en b)), aOp 0 k u s l, cI (n : Int)]) (.tup [zF r, cI 0]) (InvR lets en)
  by_cases hu : u = 2
  · rw [if_pos hu] at h
    refine PCalls.of_M TYok (z := 4) (qs := [zF r, cI 0]) [.cell 6 40, .tmp 7] 167 Tryz.func24 (by kernel_rfl) rfl rfl rfl fun G b rows hI => ?_
    simp only [St.initP, initEnv, Nat.reduceAdd, List.cons_append, List.nil_append]
    repeat' (first | ((first | apply U_ | (apply Ug_; exact rfl; exact rfl) | (apply Ugq_; exact rfl; exact rfl) | apply Lex.u | (apply Lex.g; exact rfl; exact rfl) | (apply Lex.gq; exact rfl; exact rfl)); (first | exact QX.B TYok | exact QX.Nil TYok | exact QX.Idx TYok | exact QX.Ext TYok | exact QX.Build TYok | exact QCd (h)); exact rfl) | refine SX.Alloc TYok (h := ?_) | refine SX.Store TYok (h := ?_) | refine SX.Box TYok (h := ?_) | refine SC ?_ | (apply S_isnil TYok; exact rfl; exact rfl; exact rfl; exact Ev.auto; intro bn hnil) | (apply RG.gT; exact rfl; exact rfl; (first | assumption | decide)) | (apply RG.gF; exact rfl; exact rfl; (first | assumption | decide | (rw [ne_eq, Bool.not_eq_true]; assumption) | (rw [ne_eq, Bool.not_eq_false]; assumption)); exact rfl) | (apply W.draw2 (id := 9) [0, 1, 3, 7, 15, 0, 32, 96, 224, 480, 0, 1024, 4095, 8191, 8191, 32767, 65535] [[0], [40], [41], [42], [43], [0], [45], [46], [47], [48], [4], [50], [44, 49, 51], [52], [52]] 15 [(40, 1), (41, 1099511627776), (42, 2199023255552), (43, 4398046511104), (44, 8796093022208), (45, 1), (46, 35184372088832), (47, 70368744177664), (48, 140737488355328), (49, 281474976710656), (50, 16), (51, 1125899906842624), (52, 2832341953150976), (53, 4503599627370496), (54, 4503599627370496)] mixed (by kernel_rfl) rfl rfl) | (apply W.draw2 (id := 11) [0, 1, 3, 7, 15, 0, 32, 96, 224, 480, 0, 1024, 4095, 8191, 8191, 32767, 65535] [[0], [57], [58], [59], [60], [0], [62], [63], [64], [65], [4], [67], [61, 66, 68], [69], [69]] 15 [(57, 1), (58, 144115188075855872), (59, 288230376151711744), (60, 576460752303423488), (61, 1152921504606846976), (62, 1), (63, 4611686018427387904), (64, 9223372036854775808), (65, 18446744073709551616), (66, 36893488147419103232), (67, 16), (68, 147573952589676412928), (69, 371240724483404726272), (70, 590295810358705651712), (71, 590295810358705651712)] mixed (by kernel_rfl) rfl rfl) | (refine W.condA (ht := fun hb => ?_) (hf := fun hb => ?_) <;> (try simp at hb) <;> (try (exfalso; omega))))
    all_goals exact FinP.ret 1000000 rfl hI rfl ResM.auto
  · rw [if_neg hu] at h
    refine PCalls.of_M TYok (z := 4) (qs := [zF r, cI 0]) [.cell 6 40, .tmp 7] 167 Tryz.func24 (by kernel_rfl) rfl rfl rfl fun G b rows hI => ?_
    simp only [St.initP, initEnv, Nat.reduceAdd, List.cons_append, List.nil_append]
    repeat' (first | ((first | apply U_ | (apply Ug_; exact rfl; exact rfl) | (apply Ugq_; exact rfl; exact rfl) | apply Lex.u | (apply Lex.g; exact rfl; exact rfl) | (apply Lex.gq; exact rfl; exact rfl)); (first | exact QX.B TYok | exact QX.Nil TYok | exact QX.Idx TYok | exact QX.Ext TYok | exact QX.Build TYok | exact QCd (h)); exact rfl) | refine SX.Alloc TYok (h := ?_) | refine SX.Store TYok (h := ?_) | refine SX.Box TYok (h := ?_) | refine SC ?_ | (apply S_isnil TYok; exact rfl; exact rfl; exact rfl; exact Ev.auto; intro bn hnil) | (apply RG.gT; exact rfl; exact rfl; (first | assumption | decide)) | (apply RG.gF; exact rfl; exact rfl; (first | assumption | decide | (rw [ne_eq, Bool.not_eq_true]; assumption) | (rw [ne_eq, Bool.not_eq_false]; assumption)); exact rfl) | (apply W.draw2 (id := 9) [0, 1, 3, 7, 15, 0, 32, 96, 224, 480, 0, 1024, 4095, 8191, 8191, 32767, 65535] [[0], [40], [41], [42], [43], [0], [45], [46], [47], [48], [4], [50], [44, 49, 51], [52], [52]] 15 [(40, 1), (41, 1099511627776), (42, 2199023255552), (43, 4398046511104), (44, 8796093022208), (45, 1), (46, 35184372088832), (47, 70368744177664), (48, 140737488355328), (49, 281474976710656), (50, 16), (51, 1125899906842624), (52, 2832341953150976), (53, 4503599627370496), (54, 4503599627370496)] mixed (by kernel_rfl) rfl rfl) | (apply W.draw2 (id := 11) [0, 1, 3, 7, 15, 0, 32, 96, 224, 480, 0, 1024, 4095, 8191, 8191, 32767, 65535] [[0], [57], [58], [59], [60], [0], [62], [63], [64], [65], [4], [67], [61, 66, 68], [69], [69]] 15 [(57, 1), (58, 144115188075855872), (59, 288230376151711744), (60, 576460752303423488), (61, 1152921504606846976), (62, 1), (63, 4611686018427387904), (64, 9223372036854775808), (65, 18446744073709551616), (66, 36893488147419103232), (67, 16), (68, 147573952589676412928), (69, 371240724483404726272), (70, 590295810358705651712), (71, 590295810358705651712)] mixed (by kernel_rfl) rfl rfl) | (refine W.condA (ht := fun hb => ?_) (hf := fun hb => ?_) <;> (try simp at hb) <;> (try (exfalso; omega))))
    all_goals exact FinP.ret 1000000 rfl hI rfl ResM.auto
theorem v_name (R : Rs) (h : VCalls lets en 44 [cS s, cI (n : Int)] R) : VCalls lets en 24 [aOp 1 k u s l, cI (n : Int)] R := by
  obtain ⟨x1, x2, x3, x4, hv⟩ := R.v_agg
  replace h : PCalls Tryz.prog 44 4 (fun b => [.one (.ptr (cellsR lets en b)), cS s, cI (n : Int)]) (.tup [R.v, cI R.e]) (InvR lets en) := h
  show PCalls Tryz.prog 24 4 (fun b => [.one (.ptr (cellsR lets en b)), aOp 1 k u s l, cI (n : Int)]) (.tup [R.v, cI R.e]) (InvR lets en)
  rw [hv] at h ⊢
  generalize R.e = e at *
  refine PCalls.of_M TYok (z := 4) (qs := [.agg [.int .i64 x1, .sl (x2.map Lf.encI), .int .i64 x3, .sl (x4.map Lf.encI)], cI e]) [.cell 6 40, .tmp 7] 167 Tryz.func24 (by kernel_rfl) rfl rfl rfl fun G b rows hI => ?_
  simp only [St.initP, initEnv, Nat.reduceAdd, List.cons_append, List.nil_append]
  repeat' (first | ((first | apply U_ | (apply Ug_; exact rfl; exact rfl) | (apply Ugq_; exact rfl; exact rfl) | apply Lex.u | (apply Lex.g; exact rfl; exact rfl) | (apply Lex.gq; exact rfl; exact rfl)); (first | exact QX.B TYok | exact QX.Nil TYok | exact QX.Idx TYok | exact QX.Ext TYok | exact QX.Build TYok); exact rfl) | refine SX.Alloc TYok (h := ?_) | refine SX.Store TYok (h := ?_) | refine SX.Box TYok (h := ?_) | (apply S_callp (h) (g := 1000000); exact rfl; exact rfl; exact rfl; exact rfl; (first | assumption | exact ⟨_, rfl, by assumption⟩); exact EvD.auto; intro _ hI2) | refine SC ?_ | (apply S_isnil TYok; exact rfl; exact rfl; exact rfl; exact Ev.auto; intro bn hnil) | (apply RG.gT; exact rfl; exact rfl; (first | assumption | decide)) | (apply RG.gF; exact rfl; exact rfl; (first | assumption | decide | (rw [ne_eq, Bool.not_eq_true]; assumption) | (rw [ne_eq, Bool.not_eq_false]; assumption)); exact rfl) | (apply W.draw2 (id := 9) [0, 1, 3, 7, 15, 0, 32, 96, 224, 480, 0, 1024, 4095, 8191, 8191, 32767, 65535] [[0], [40], [41], [42], [43], [0], [45], [46], [47], [48], [4], [50], [44, 49, 51], [52], [52]] 15 [(40, 1), (41, 1099511627776), (42, 2199023255552), (43, 4398046511104), (44, 8796093022208), (45, 1), (46, 35184372088832), (47, 70368744177664), (48, 140737488355328), (49, 281474976710656), (50, 16), (51, 1125899906842624), (52, 2832341953150976), (53, 4503599627370496), (54, 4503599627370496)] mixed (by kernel_rfl) rfl rfl) | (apply W.draw2 (id := 11) [0, 1, 3, 7, 15, 0, 32, 96, 224, 480, 0, 1024, 4095, 8191, 8191, 32767, 65535] [[0], [57], [58], [59], [60], [0], [62], [63], [64], [65], [4], [67], [61, 66, 68], [69], [69]] 15 [(57, 1), (58, 144115188075855872), (59, 288230376151711744), (60, 576460752303423488), (61, 1152921504606846976), (62, 1), (63, 4611686018427387904), (64, 9223372036854775808), (65, 18446744073709551616), (66, 36893488147419103232), (67, 16), (68, 147573952589676412928), (69, 371240724483404726272), (70, 590295810358705651712), (71, 590295810358705651712)] mixed (by kernel_rfl) rfl rfl) | (refine W.condA (ht := fun hb => ?_) (hf := fun hb => ?_) <;> (try simp at hb) <;> (try (exfalso; omega))))
  all_goals exact FinP.ret 1000000 rfl hI2 rfl ResM.auto
theorem v_look (R : Rs) (hop : (op = 2 ∧ R = lookF en.names en.vals s) ∨ (op = 3 ∧ R = lookF en.iss en.rates s)) (he : en.Ok) : VCalls lets en 24 [aOp op k u s l, cI (n : Int)] R := by
  have h1 := lookup_ok en.names en.vals s he.b1 he.l1
  have h2 := lookup_ok en.iss en.rates s he.b2 he.l2
  obtain ⟨x1, x2, x3, x4, hv⟩ := R.v_agg
  show PCalls Tryz.prog 24 4 (fun b => [.one (.ptr (cellsR lets en b)), aOp op k u s l, cI (n : Int)]) (.tup [R.v, cI R.e]) (InvR lets en)
  rcases hop with ⟨rfl, hR⟩ | ⟨rfl, hR⟩
  · rw [← hR] at h1
    unfold resP at h1
    rw [hv] at h1 ⊢
    clear h2 hR
    generalize R.e = e at *
    refine PCalls.of_M TYok (z := 4) (qs := [.agg [.int .i64 x1, .sl (x2.map Lf.encI), .int .i64 x3, .sl (x4.map Lf.encI)], cI e]) [.cell 6 40, .tmp 7] 167 Tryz.func24 (by kernel_rfl) rfl rfl rfl fun G b rows hI => ?_
    simp only [St.initP, initEnv, Nat.reduceAdd, List.cons_append, List.nil_append]
    repeat' (first | ((first | apply U_ | (apply Ug_; exact rfl; exact rfl) | (apply Ugq_; exact rfl; exact rfl) | apply Lex.u | (apply Lex.g; exact rfl; exact rfl) | (apply Lex.gq; exact rfl; exact rfl)); (first | exact QX.B TYok | exact QX.Nil TYok | exact QX.Idx TYok | exact QX.Ext TYok | exact QX.Build TYok | exact QCd (h1)); exact rfl) | refine SX.Alloc TYok (h := ?_) | refine SX.Store TYok (h := ?_) | refine SX.Box TYok (h := ?_) | refine SC ?_ | (apply S_isnil TYok; exact rfl; exact rfl; exact rfl; exact Ev.auto; intro bn hnil) | (apply RG.gT; exact rfl; exact rfl; (first | assumption | decide)) | (apply RG.gF; exact rfl; exact rfl; (first | assumption | decide | (rw [ne_eq, Bool.not_eq_true]; assumption) | (rw [ne_eq, Bool.not_eq_false]; assumption)); exact rfl) | (apply W.draw2 (id := 9) [0, 1, 3, 7, 15, 0, 32, 96, 224, 480, 0, 1024, 4095, 8191, 8191, 32767, 65535] [[0], [40], [41], [42], [43], [0], [45], [46], [47], [48], [4], [50], [44, 49, 51], [52], [52]] 15 [(40, 1), (41, 1099511627776), (42, 2199023255552), (43, 4398046511104), (44, 8796093022208), (45, 1), (46, 35184372088832), (47, 70368744177664), (48, 140737488355328), (49, 281474976710656), (50, 16), (51, 1125899906842624), (52, 2832341953150976), (53, 4503599627370496), (54, 4503599627370496)] mixed (by kernel_rfl) rfl rfl) | (apply W.draw2 (id := 11) [0, 1, 3, 7, 15, 0, 32, 96, 224, 480, 0, 1024, 4095, 8191, 8191, 32767, 65535] [[0], [57], [58], [59], [60], [0], [62], [63], [64], [65], [4], [67], [61, 66, 68], [69], [69]] 15 [(57, 1), (58, 144115188075855872), (59, 288230376151711744), (60, 576460752303423488), (61, 1152921504606846976), (62, 1), (63, 4611686018427387904), (64, 9223372036854775808), (65, 18446744073709551616), (66, 36893488147419103232), (67, 16), (68, 147573952589676412928), (69, 371240724483404726272), (70, 590295810358705651712), (71, 590295810358705651712)] mixed (by kernel_rfl) rfl rfl) | (refine W.condA (ht := fun hb => ?_) (hf := fun hb => ?_) <;> (try simp at hb) <;> (try (exfalso; omega))))
    all_goals exact FinP.ret 1000000 rfl hI rfl ResM.auto
  · rw [← hR] at h2
    unfold resP at h2
    rw [hv] at h2 ⊢
    clear h1 hR
    generalize R.e = e at *
    refine PCalls.of_M TYok (z := 4) (qs := [.agg [.int .i64 x1, .sl (x2.map Lf.encI), .int .i64 x3, .sl (x4.map Lf.encI)], cI e]) [.cell 6 40, .tmp 7] 167 Tryz.func24 (by kernel_rfl) rfl rfl rfl fun G b rows hI => ?_
    simp only [St.initP, initEnv, Nat.reduceAdd, List.cons_append, List.nil_append]
    repeat' (first | ((first | apply U_ | (apply Ug_; exact rfl; exact rfl) | (apply Ugq_; exact rfl; exact rfl) | apply Lex.u | (apply Lex.g; exact rfl; exact rfl) | (apply Lex.gq; exact rfl; exact rfl)); (first | exact QX.B TYok | exact QX.Nil TYok | exact QX.Idx TYok | exact QX.Ext TYok | exact QX.Build TYok | exact QCd (h2)); exact rfl) | refine SX.Alloc TYok (h := ?_) | refine SX.Store TYok (h := ?_) | refine SX.Box TYok (h := ?_) | refine SC ?_ | (apply S_isnil TYok; exact rfl; exact rfl; exact rfl; exact Ev.auto; intro bn hnil) | (apply RG.gT; exact rfl; exact rfl; (first | assumption | decide)) | (apply RG.gF; exact rfl; exact rfl; (first | assumption | decide | (rw [ne_eq, Bool.not_eq_true]; assumption) | (rw [ne_eq, Bool.not_eq_false]; assumption)); exact rfl) | (apply W.draw2 (id := 9) [0, 1, 3, 7, 15, 0, 32, 96, 224, 480, 0, 1024, 4095, 8191, 8191, 32767, 65535] [[0], [40], [41], [42], [43], [0], [45], [46], [47], [48], [4], [50], [44, 49, 51], [52], [52]] 15 [(40, 1), (41, 1099511627776), (42, 2199023255552), (43, 4398046511104), (44, 8796093022208), (45, 1), (46, 35184372088832), (47, 70368744177664), (48, 140737488355328), (49, 281474976710656), (50, 16), (51, 1125899906842624), (52, 2832341953150976), (53, 4503599627370496), (54, 4503599627370496)] mixed (by kernel_rfl) rfl rfl) | (apply W.draw2 (id := 11) [0, 1, 3, 7, 15, 0, 32, 96, 224, 480, 0, 1024, 4095, 8191, 8191, 32767, 65535] [[0], [57], [58], [59], [60], [0], [62], [63], [64], [65], [4], [67], [61, 66, 68], [69], [69]] 15 [(57, 1), (58, 144115188075855872), (59, 288230376151711744), (60, 576460752303423488), (61, 1152921504606846976), (62, 1), (63, 4611686018427387904), (64, 9223372036854775808), (65, 18446744073709551616), (66, 36893488147419103232), (67, 16), (68, 147573952589676412928), (69, 371240724483404726272), (70, 590295810358705651712), (71, 590295810358705651712)] mixed (by kernel_rfl) rfl rfl) | (refine W.condA (ht := fun hb => ?_) (hf := fun hb => ?_) <;> (try simp at hb) <;> (try (exfalso; omega))))
    all_goals exact FinP.ret 1000000 rfl hI rfl ResM.auto
abbrev Arg (lets : List Let) (en : EnvQ) (l : List Exp) (n : Nat) (j : Nat) (v : PV) (e : Int) : Prop := PCalls Tryz.prog 24 4 (fun b => [.one (.ptr (cellsR lets en b)), aE (nth l j), cI (n : Int)]) (.tup [v, cI e]) (InvR lets en)
theorem v_bad {e : Int} (he : e ≠ 0) (hop : op ≠ 0 ∧ op ≠ 1 ∧ op ≠ 2 ∧ op ≠ 3) (hl : 0 < l.length) (h0 : Arg lets en l n 0 zF0 e) : VCalls lets en 24 [aOp op k u s l, cI (n : Int)] (.err e) := by
  show PCalls Tryz.prog 24 4 (fun b => [.one (.ptr (cellsR lets en b)), aOp op k u s l, cI (n : Int)]) (.tup [zF0, cI e]) (InvR lets en)
  refine PCalls.of_M TYok (z := 4) (qs := [zF0, cI e]) [.cell 6 40, .tmp 7] 167 Tryz.func24 (by kernel_rfl) rfl rfl rfl fun G b rows hI => ?_
  simp only [St.initP, initEnv, Nat.reduceAdd, List.cons_append, List.nil_append]
  repeat' (first | ((first | apply U_ | (apply Ug_; exact rfl; exact rfl) | (apply Ugq_; exact rfl; exact rfl) | apply Lex.u | (apply Lex.g; exact rfl; exact rfl) | (apply Lex.gq; exact rfl; exact rfl)); (first | exact QX.B TYok | exact QX.Nil TYok | exact QX.Idx TYok | exact QX.Ext TYok | exact QX.Build TYok); exact rfl) | refine SX.Alloc TYok (h := ?_) | refine SX.Store TYok (h := ?_) | refine SX.Box TYok (h := ?_) | (apply S_callp (h0) (g := 1000000); exact rfl; exact rfl; exact rfl; exact rfl; (first | assumption | exact ⟨_, rfl, by assumption⟩); exact EvD.auto; intro _ hI2) | refine SC ?_ | (apply S_isnil TYok; exact rfl; exact rfl; exact rfl; exact Ev.auto; intro bn hnil) | (apply RG.gT; exact rfl; exact rfl; (first | assumption | decide)) | (apply RG.gF; exact rfl; exact rfl; (first | assumption | decide | (rw [ne_eq, Bool.not_eq_true]; assumption) | (rw [ne_eq, Bool.not_eq_false]; assumption)); exact rfl) | (apply W.draw2 (id := 9) [0, 1, 3, 7, 15, 0, 32, 96, 224, 480, 0, 1024, 4095, 8191, 8191, 32767, 65535] [[0], [40], [41], [42], [43], [0], [45], [46], [47], [48], [4], [50], [44, 49, 51], [52], [52]] 15 [(40, 1), (41, 1099511627776), (42, 2199023255552), (43, 4398046511104), (44, 8796093022208), (45, 1), (46, 35184372088832), (47, 70368744177664), (48, 140737488355328), (49, 281474976710656), (50, 16), (51, 1125899906842624), (52, 2832341953150976), (53, 4503599627370496), (54, 4503599627370496)] mixed (by kernel_rfl) rfl rfl) | (apply W.draw2 (id := 11) [0, 1, 3, 7, 15, 0, 32, 96, 224, 480, 0, 1024, 4095, 8191, 8191, 32767, 65535] [[0], [57], [58], [59], [60], [0], [62], [63], [64], [65], [4], [67], [61, 66, 68], [69], [69]] 15 [(57, 1), (58, 144115188075855872), (59, 288230376151711744), (60, 576460752303423488), (61, 1152921504606846976), (62, 1), (63, 4611686018427387904), (64, 9223372036854775808), (65, 18446744073709551616), (66, 36893488147419103232), (67, 16), (68, 147573952589676412928), (69, 371240724483404726272), (70, 590295810358705651712), (71, 590295810358705651712)] mixed (by kernel_rfl) rfl rfl) | (refine W.condA (ht := fun hb => ?_) (hf := fun hb => ?_) <;> (try simp at hb) <;> (try (exfalso; omega))))
  all_goals exact FinP.ret 1000000 rfl hI2 rfl (ResM.cell rfl rfl rfl rfl zeroSubF (ResM.tmp rfl rfl PSub.rfl' ResM.nil))
theorem v_not {a : Rat} (hl : 0 < l.length) (h0 : Arg lets en l n 0 (zF a) 0) : VCalls lets en 24 [aOp 12 k u s l, cI (n : Int)] (.ok (one01 (decide (sgn a.num = 0)))) := by
  have t1 := truth_ok (!!decide (sgn a.num = 0))
  rw [show one01 (!!decide (sgn a.num = 0)) = one01 (decide (sgn a.num = 0)) by rw [Bool.not_not]] at t1
  show PCalls Tryz.prog 24 4 (fun b => [.one (.ptr (cellsR lets en b)), aOp 12 k u s l, cI (n : Int)]) (.tup [zF (one01 (decide (sgn a.num = 0))), cI 0]) (InvR lets en)
  generalize one01 (decide (sgn a.num = 0)) = r at *
  refine PCalls.of_M TYok (z := 4) (qs := [zF r, cI 0]) [.cell 6 40, .tmp 7] 167 Tryz.func24 (by kernel_rfl) rfl rfl rfl fun G b rows hI => ?_
  simp only [St.initP, initEnv, Nat.reduceAdd, List.cons_append, List.nil_append]
  repeat' (first | ((first | apply U_ | (apply Ug_; exact rfl; exact rfl) | (apply Ugq_; exact rfl; exact rfl) | apply Lex.u | (apply Lex.g; exact rfl; exact rfl) | (apply Lex.gq; exact rfl; exact rfl)); (first | exact QX.B TYok | exact QX.Nil TYok | exact QX.Idx TYok | exact QX.Ext TYok | exact QX.Build TYok | exact QCd (t1)); exact rfl) | refine SX.Alloc TYok (h := ?_) | refine SX.Store TYok (h := ?_) | refine SX.Box TYok (h := ?_) | (apply S_callp (h0) (g := 1000000); exact rfl; exact rfl; exact rfl; exact rfl; (first | assumption | exact ⟨_, rfl, by assumption⟩); exact EvD.auto; intro _ hI2) | refine SC ?_ | (apply S_isnil TYok; exact rfl; exact rfl; exact rfl; exact Ev.auto; intro bn hnil) | (apply RG.gT; exact rfl; exact rfl; (first | assumption | decide)) | (apply RG.gF; exact rfl; exact rfl; (first | assumption | decide | (rw [ne_eq, Bool.not_eq_true]; assumption) | (rw [ne_eq, Bool.not_eq_false]; assumption)); exact rfl) | (apply W.draw2 (id := 9) [0, 1, 3, 7, 15, 0, 32, 96, 224, 480, 0, 1024, 4095, 8191, 8191, 32767, 65535] [[0], [40], [41], [42], [43], [0], [45], [46], [47], [48], [4], [50], [44, 49, 51], [52], [52]] 15 [(40, 1), (41, 1099511627776), (42, 2199023255552), (43, 4398046511104), (44, 8796093022208), (45, 1), (46, 35184372088832), (47, 70368744177664), (48, 140737488355328), (49, 281474976710656), (50, 16), (51, 1125899906842624), (52, 2832341953150976), (53, 4503599627370496), (54, 4503599627370496)] mixed (by kernel_rfl) rfl rfl) | (apply W.draw2 (id := 11) [0, 1, 3, 7, 15, 0, 32, 96, 224, 480, 0, 1024, 4095, 8191, 8191, 32767, 65535] [[0], [57], [58], [59], [60], [0], [62], [63], [64], [65], [4], [67], [61, 66, 68], [69], [69]] 15 [(57, 1), (58, 144115188075855872), (59, 288230376151711744), (60, 576460752303423488), (61, 1152921504606846976), (62, 1), (63, 4611686018427387904), (64, 9223372036854775808), (65, 18446744073709551616), (66, 36893488147419103232), (67, 16), (68, 147573952589676412928), (69, 371240724483404726272), (70, 590295810358705651712), (71, 590295810358705651712)] mixed (by kernel_rfl) rfl rfl) | (refine W.condA (ht := fun hb => ?_) (hf := fun hb => ?_) <;> (try simp at hb) <;> (try (exfalso; omega))))
  all_goals exact FinP.ret 1000000 rfl hI2 rfl ResM.auto
theorem v_if {a : Rat} {j : Nat} {R : Rs} (hl : l.length = 3) (h0 : Arg lets en l n 0 (zF a) 0) (hj : (sgn a.num = 0 ∧ j = 2) ∨ (sgn a.num ≠ 0 ∧ j = 1)) (h1 : VCalls lets en 24 [aE (nth l j), cI (n : Int)] R) : VCalls lets en 24 [aOp 15 k u s l, cI (n : Int)] R := by
  obtain ⟨x1, x2, x3, x4, hv⟩ := R.v_agg
  replace h1 : PCalls Tryz.prog 24 4 (fun b => [.one (.ptr (cellsR lets en b)), aE (nth l j), cI (n : Int)]) (.tup [R.v, cI R.e]) (InvR lets en) := h1
  show PCalls Tryz.prog 24 4 (fun b => [.one (.ptr (cellsR lets en b)), aOp 15 k u s l, cI (n : Int)]) (.tup [R.v, cI R.e]) (InvR lets en)
  rw [hv] at h1 ⊢
  generalize R.e = e at *
  rcases hj with ⟨hz, rfl⟩ | ⟨hz, rfl⟩
  · skip
    refine PCalls.of_M TYok (z := 4) (qs := [.agg [.int .i64 x1, .sl (x2.map Lf.encI), .int .i64 x3, .sl (x4.map Lf.encI)], cI e]) [.cell 6 40, .tmp 7] 167 Tryz.func24 (by kernel_rfl) rfl rfl rfl fun G b rows hI => ?_
    simp only [St.initP, initEnv, Nat.reduceAdd, List.cons_append, List.nil_append]
    repeat' (first | ((first | apply U_ | (apply Ug_; exact rfl; exact rfl) | (apply Ugq_; exact rfl; exact rfl) | apply Lex.u | (apply Lex.g; exact rfl; exact rfl) | (apply Lex.gq; exact rfl; exact rfl)); (first | exact QX.B TYok | exact QX.Nil TYok | exact QX.Idx TYok | exact QX.Ext TYok | exact QX.Build TYok); exact rfl) | refine SX.Alloc TYok (h := ?_) | refine SX.Store TYok (h := ?_) | refine SX.Box TYok (h := ?_) | (apply S_callp (h0) (g := 1000000); exact rfl; exact rfl; exact rfl; exact rfl; (first | assumption | exact ⟨_, rfl, by assumption⟩); exact EvD.auto; intro _ hI2) | (apply S_callp (h1) (g := 1000000); exact rfl; exact rfl; exact rfl; exact rfl; (first | assumption | exact ⟨_, rfl, by assumption⟩); exact EvD.auto; intro _ hI3) | refine SC ?_ | (apply S_isnil TYok; exact rfl; exact rfl; exact rfl; exact Ev.auto; intro bn hnil) | (apply RG.gT; exact rfl; exact rfl; (first | assumption | decide)) | (apply RG.gF; exact rfl; exact rfl; (first | assumption | decide | (rw [ne_eq, Bool.not_eq_true]; assumption) | (rw [ne_eq, Bool.not_eq_false]; assumption)); exact rfl) | (apply W.draw2 (id := 9) [0, 1, 3, 7, 15, 0, 32, 96, 224, 480, 0, 1024, 4095, 8191, 8191, 32767, 65535] [[0], [40], [41], [42], [43], [0], [45], [46], [47], [48], [4], [50], [44, 49, 51], [52], [52]] 15 [(40, 1), (41, 1099511627776), (42, 2199023255552), (43, 4398046511104), (44, 8796093022208), (45, 1), (46, 35184372088832), (47, 70368744177664), (48, 140737488355328), (49, 281474976710656), (50, 16), (51, 1125899906842624), (52, 2832341953150976), (53, 4503599627370496), (54, 4503599627370496)] mixed (by kernel_rfl) rfl rfl) | (apply W.draw2 (id := 11) [0, 1, 3, 7, 15, 0, 32, 96, 224, 480, 0, 1024, 4095, 8191, 8191, 32767, 65535] [[0], [57], [58], [59], [60], [0], [62], [63], [64], [65], [4], [67], [61, 66, 68], [69], [69]] 15 [(57, 1), (58, 144115188075855872), (59, 288230376151711744), (60, 576460752303423488), (61, 1152921504606846976), (62, 1), (63, 4611686018427387904), (64, 9223372036854775808), (65, 18446744073709551616), (66, 36893488147419103232), (67, 16), (68, 147573952589676412928), (69, 371240724483404726272), (70, 590295810358705651712), (71, 590295810358705651712)] mixed (by kernel_rfl) rfl rfl) | (refine W.condA (ht := fun hb => ?_) (hf := fun hb => ?_) <;> (try simp at hb) <;> (try (exfalso; omega))))
    all_goals exact FinP.ret 1000000 rfl hI3 rfl ResM.auto
  · skip
    refine PCalls.of_M TYok (z := 4) (qs := [.agg [.int .i64 x1, .sl (x2.map Lf.encI), .int .i64 x3, .sl (x4.map Lf.encI)], cI e]) [.cell 6 40, .tmp 7] 167 Tryz.func24 (by kernel_rfl) rfl rfl rfl fun G b rows hI => ?_
    simp only [St.initP, initEnv, Nat.reduceAdd, List.cons_append, List.nil_append]
    repeat' (first | ((first | apply U_ | (apply Ug_; exact rfl; exact rfl) | (apply Ugq_; exact rfl; exact rfl) | apply Lex.u | (apply Lex.g; exact rfl; exact rfl) | (apply Lex.gq; exact rfl; exact rfl)); (first | exact QX.B TYok | exact QX.Nil TYok | exact QX.Idx TYok | exact QX.Ext TYok | exact QX.Build TYok); exact rfl) | refine SX.Alloc TYok (h := ?_) | refine SX.Store TYok (h := ?_) | refine SX.Box TYok (h := ?_) | (apply S_callp (h0) (g := 1000000); exact rfl; exact rfl; exact rfl; exact rfl; (first | assumption | exact ⟨_, rfl, by assumption⟩); exact EvD.auto; intro _ hI2) | (apply S_callp (h1) (g := 1000000); exact rfl; exact rfl; exact rfl; exact rfl; (first | assumption | exact ⟨_, rfl, by assumption⟩); exact EvD.auto; intro _ hI3) | refine SC ?_ | (apply S_isnil TYok; exact rfl; exact rfl; exact rfl; exact Ev.auto; intro bn hnil) | (apply RG.gT; exact rfl; exact rfl; (first | assumption | decide)) | (apply RG.gF; exact rfl; exact rfl; (first | assumption | decide | (rw [ne_eq, Bool.not_eq_true]; assumption) | (rw [ne_eq, Bool.not_eq_false]; assumption)); exact rfl) | (apply W.draw2 (id := 9) [0, 1, 3, 7, 15, 0, 32, 96, 224, 480, 0, 1024, 4095, 8191, 8191, 32767, 65535] [[0], [40], [41], [42], [43], [0], [45], [46], [47], [48], [4], [50], [44, 49, 51], [52], [52]] 15 [(40, 1), (41, 1099511627776), (42, 2199023255552), (43, 4398046511104), (44, 8796093022208), (45, 1), (46, 35184372088832), (47, 70368744177664), (48, 140737488355328), (49, 281474976710656), (50, 16), (51, 1125899906842624), (52, 2832341953150976), (53, 4503599627370496), (54, 4503599627370496)] mixed (by kernel_rfl) rfl rfl) | (apply W.draw2 (id := 11) [0, 1, 3, 7, 15, 0, 32, 96, 224, 480, 0, 1024, 4095, 8191, 8191, 32767, 65535] [[0], [57], [58], [59], [60], [0], [62], [63], [64], [65], [4], [67], [61, 66, 68], [69], [69]] 15 [(57, 1), (58, 144115188075855872), (59, 288230376151711744), (60, 576460752303423488), (61, 1152921504606846976), (62, 1), (63, 4611686018427387904), (64, 9223372036854775808), (65, 18446744073709551616), (66, 36893488147419103232), (67, 16), (68, 147573952589676412928), (69, 371240724483404726272), (70, 590295810358705651712), (71, 590295810358705651712)] mixed (by kernel_rfl) rfl rfl) | (refine W.condA (ht := fun hb => ?_) (hf := fun hb => ?_) <;> (try simp at hb) <;> (try (exfalso; omega))))
    all_goals exact FinP.ret 1000000 rfl hI3 rfl ResM.auto
theorem v_short {a : Rat} (hl : l.length = 2) (h0 : Arg lets en l n 0 (zF a) 0) (hop : (op = 13 ∧ sgn a.num = 0) ∨ (op = 14 ∧ sgn a.num ≠ 0)) : VCalls lets en 24 [aOp op k u s l, cI (n : Int)] (.ok (one01 (!decide (sgn a.num = 0)))) := by
  have t1 := truth_ok (!decide (sgn a.num = 0))
  show PCalls Tryz.prog 24 4 (fun b => [.one (.ptr (cellsR lets en b)), aOp op k u s l, cI (n : Int)]) (.tup [zF (one01 (!decide (sgn a.num = 0))), cI 0]) (InvR lets en)
  generalize one01 (!decide (sgn a.num = 0)) = r at *
  rcases hop with ⟨rfl, hz⟩ | ⟨rfl, hz⟩
  · skip
    refine PCalls.of_M TYok (z := 4) (qs := [zF r, cI 0]) [.cell 6 40, .tmp 7] 167 Tryz.func24 (by kernel_rfl) rfl rfl rfl fun G b rows hI => ?_
    simp only [St.initP, initEnv, Nat.reduceAdd, List.cons_append, List.nil_append]
    repeat' (first | ((first | apply U_ | (apply Ug_; exact rfl; exact rfl) | (apply Ugq_; exact rfl; exact rfl) | apply Lex.u | (apply Lex.g; exact rfl; exact rfl) | (apply Lex.gq; exact rfl; exact rfl)); (first | exact QX.B TYok | exact QX.Nil TYok | exact QX.Idx TYok | exact QX.Ext TYok | exact QX.Build TYok | exact QCd (t1)); exact rfl) | refine SX.Alloc TYok (h := ?_) | refine SX.Store TYok (h := ?_) | refine SX.Box TYok (h := ?_) | (apply S_callp (h0) (g := 1000000); exact rfl; exact rfl; exact rfl; exact rfl; (first | assumption | exact ⟨_, rfl, by assumption⟩); exact EvD.auto; intro _ hI2) | refine SC ?_ | (apply S_isnil TYok; exact rfl; exact rfl; exact rfl; exact Ev.auto; intro bn hnil) | (apply RG.gT; exact rfl; exact rfl; (first | assumption | decide)) | (apply RG.gF; exact rfl; exact rfl; (first | assumption | decide | (rw [ne_eq, Bool.not_eq_true]; assumption) | (rw [ne_eq, Bool.not_eq_false]; assumption)); exact rfl) | (apply W.draw2 (id := 9) [0, 1, 3, 7, 15, 0, 32, 96, 224, 480, 0, 1024, 4095, 8191, 8191, 32767, 65535] [[0], [40], [41], [42], [43], [0], [45], [46], [47], [48], [4], [50], [44, 49, 51], [52], [52]] 15 [(40, 1), (41, 1099511627776), (42, 2199023255552), (43, 4398046511104), (44, 8796093022208), (45, 1), (46, 35184372088832), (47, 70368744177664), (48, 140737488355328), (49, 281474976710656), (50, 16), (51, 1125899906842624), (52, 2832341953150976), (53, 4503599627370496), (54, 4503599627370496)] mixed (by kernel_rfl) rfl rfl) | (apply W.draw2 (id := 11) [0, 1, 3, 7, 15, 0, 32, 96, 224, 480, 0, 1024, 4095, 8191, 8191, 32767, 65535] [[0], [57], [58], [59], [60], [0], [62], [63], [64], [65], [4], [67], [61, 66, 68], [69], [69]] 15 [(57, 1), (58, 144115188075855872), (59, 288230376151711744), (60, 576460752303423488), (61, 1152921504606846976), (62, 1), (63, 4611686018427387904), (64, 9223372036854775808), (65, 18446744073709551616), (66, 36893488147419103232), (67, 16), (68, 147573952589676412928), (69, 371240724483404726272), (70, 590295810358705651712), (71, 590295810358705651712)] mixed (by kernel_rfl) rfl rfl) | (refine W.condA (ht := fun hb => ?_) (hf := fun hb => ?_) <;> (try simp at hb) <;> (try (exfalso; omega))))
    all_goals exact FinP.ret 1000000 rfl hI2 rfl ResM.auto
  · skip
    refine PCalls.of_M TYok (z := 4) (qs := [zF r, cI 0]) [.cell 6 40, .tmp 7] 167 Tryz.func24 (by kernel_rfl) rfl rfl rfl fun G b rows hI => ?_
    simp only [St.initP, initEnv, Nat.reduceAdd, List.cons_append, List.nil_append]
    repeat' (first | ((first | apply U_ | (apply Ug_; exact rfl; exact rfl) | (apply Ugq_; exact rfl; exact rfl) | apply Lex.u | (apply Lex.g; exact rfl; exact rfl) | (apply Lex.gq; exact rfl; exact rfl)); (first | exact QX.B TYok | exact QX.Nil TYok | exact QX.Idx TYok | exact QX.Ext TYok | exact QX.Build TYok | exact QCd (t1)); exact rfl) | refine SX.Alloc TYok (h := ?_) | refine SX.Store TYok (h := ?_) | refine SX.Box TYok (h := ?_) | (apply S_callp (h0) (g := 1000000); exact rfl; exact rfl; exact rfl; exact rfl; (first | assumption | exact ⟨_, rfl, by assumption⟩); exact EvD.auto; intro _ hI2) | refine SC ?_ | (apply S_isnil TYok; exact rfl; exact rfl; exact rfl; exact Ev.auto; intro bn hnil) | (apply RG.gT; exact rfl; exact rfl; (first | assumption | decide)) | (apply RG.gF; exact rfl; exact rfl; (first | assumption | decide | (rw [ne_eq, Bool.not_eq_true]; assumption) | (rw [ne_eq, Bool.not_eq_false]; assumption)); exact rfl) | (apply W.draw2 (id := 9) [0, 1, 3, 7, 15, 0, 32, 96, 224, 480, 0, 1024, 4095, 8191, 8191, 32767, 65535] [[0], [40], [41], [42], [43], [0], [45], [46], [47], [48], [4], [50], [44, 49, 51], [52], [52]] 15 [(40, 1), (41, 1099511627776), (42, 2199023255552), (43, 4398046511104), (44, 8796093022208), (45, 1), (46, 35184372088832), (47, 70368744177664), (48, 140737488355328), (49, 281474976710656), (50, 16), (51, 1125899906842624), (52, 2832341953150976), (53, 4503599627370496), (54, 4503599627370496)] mixed (by kernel_rfl) rfl rfl) | (apply W.draw2 (id := 11) [0, 1, 3, 7, 15, 0, 32, 96, 224, 480, 0, 1024, 4095, 8191, 8191, 32767, 65535] [[0], [57], [58], [59], [60], [0], [62], [63], [64], [65], [4], [67], [61, 66, 68], [69], [69]] 15 [(57, 1), (58, 144115188075855872), (59, 288230376151711744), (60, 576460752303423488), (61, 1152921504606846976), (62, 1), (63, 4611686018427387904), (64, 9223372036854775808), (65, 18446744073709551616), (66, 36893488147419103232), (67, 16), (68, 147573952589676412928), (69, 371240724483404726272), (70, 590295810358705651712), (71, 590295810358705651712)] mixed (by kernel_rfl) rfl rfl) | (refine W.condA (ht := fun hb => ?_) (hf := fun hb => ?_) <;> (try simp at hb) <;> (try (exfalso; omega))))
    all_goals exact FinP.ret 1000000 rfl hI2 rfl ResM.auto
theorem v_bad1 {a : Rat} {e : Int} (he : e ≠ 0) (hop : op ≠ 0 ∧ op ≠ 1 ∧ op ≠ 2 ∧ op ≠ 3 ∧ op ≠ 12 ∧ op ≠ 15) (hs : ¬ (op = 13 ∧ sgn a.num = 0) ∧ ¬ (op = 14 ∧ sgn a.num ≠ 0)) (hl : l.length = 2) (h0 : Arg lets en l n 0 (zF a) 0) (h1 : Arg lets en l n 1 zF0 e) : VCalls lets en 24 [aOp op k u s l, cI (n : Int)] (.err e) := by
  show PCalls Tryz.prog 24 4 (fun b => [.one (.ptr (cellsR lets en b)), aOp op k u s l, cI (n : Int)]) (.tup [zF0, cI e]) (InvR lets en)
  refine PCalls.of_M TYok (z := 4) (qs := [zF0, cI e]) [.cell 6 40, .tmp 7] 167 Tryz.func24 (by kernel_rfl) rfl rfl rfl fun G b rows hI => ?_
  simp only [St.initP, initEnv, Nat.reduceAdd, List.cons_append, List.nil_append]
  repeat' (first | ((first | apply U_ | (apply Ug_; exact rfl; exact rfl) | (apply Ugq_; exact rfl; exact rfl) | apply Lex.u | (apply Lex.g; exact rfl; exact rfl) | (apply Lex.gq; exact rfl; exact rfl)); (first | exact QX.B TYok | exact QX.Nil TYok | exact QX.Idx TYok | exact QX.Ext TYok | exact QX.Build TYok); exact rfl) | refine SX.Alloc TYok (h := ?_) | refine SX.Store TYok (h := ?_) | refine SX.Box TYok (h := ?_) | (apply S_callp (h0) (g := 1000000); exact rfl; exact rfl; exact rfl; exact rfl; (first | assumption | exact ⟨_, rfl, by assumption⟩); exact EvD.auto; intro _ hI2) | (apply S_callp (h1) (g := 1000000); exact rfl; exact rfl; exact rfl; exact rfl; (first | assumption | exact ⟨_, rfl, by assumption⟩); exact EvD.auto; intro _ hI3) | refine SC ?_ | (apply S_isnil TYok; exact rfl; exact rfl; exact rfl; exact Ev.auto; intro bn hnil) | (apply RG.gT; exact rfl; exact rfl; (first | assumption | decide)) | (apply RG.gF; exact rfl; exact rfl; (first | assumption | decide | (rw [ne_eq, Bool.not_eq_true]; assumption) | (rw [ne_eq, Bool.not_eq_false]; assumption)); exact rfl) | (apply W.draw2 (id := 9) [0, 1, 3, 7, 15, 0, 32, 96, 224, 480, 0, 1024, 4095, 8191, 8191, 32767, 65535] [[0], [40], [41], [42], [43], [0], [45], [46], [47], [48], [4], [50], [44, 49, 51], [52], [52]] 15 [(40, 1), (41, 1099511627776), (42, 2199023255552), (43, 4398046511104), (44, 8796093022208), (45, 1), (46, 35184372088832), (47, 70368744177664), (48, 140737488355328), (49, 281474976710656), (50, 16), (51, 1125899906842624), (52, 2832341953150976), (53, 4503599627370496), (54, 4503599627370496)] mixed (by kernel_rfl) rfl rfl) | (apply W.draw2 (id := 11) [0, 1, 3, 7, 15, 0, 32, 96, 224, 480, 0, 1024, 4095, 8191, 8191, 32767, 65535] [[0], [57], [58], [59], [60], [0], [62], [63], [64], [65], [4], [67], [61, 66, 68], [69], [69]] 15 [(57, 1), (58, 144115188075855872), (59, 288230376151711744), (60, 576460752303423488), (61, 1152921504606846976), (62, 1), (63, 4611686018427387904), (64, 9223372036854775808), (65, 18446744073709551616), (66, 36893488147419103232), (67, 16), (68, 147573952589676412928), (69, 371240724483404726272), (70, 590295810358705651712), (71, 590295810358705651712)] mixed (by kernel_rfl) rfl rfl) | (refine W.condA (ht := fun hb => ?_) (hf := fun hb => ?_) <;> (try simp at hb) <;> (try (exfalso; omega))))
  all_goals exact FinP.ret 1000000 rfl hI3 rfl (ResM.cell rfl rfl rfl rfl zeroSubF (ResM.tmp rfl rfl PSub.rfl' ResM.nil))
theorem v_two {a c : Rat} {R : Rs} (hop : op ≠ 0 ∧ op ≠ 1 ∧ op ≠ 2 ∧ op ≠ 3 ∧ op ≠ 12 ∧ op ≠ 15) (hs : ¬ (op = 13 ∧ sgn a.num = 0) ∧ ¬ (op = 14 ∧ sgn a.num ≠ 0)) (hl : l.length = 2) (h0 : Arg lets en l n 0 (zF a) 0) (h1 : Arg lets en l n 1 (zF c) 0) (hbin : ACalls Tryz.prog 47 [cI op, zF a, zF c] (resP R)) : VCalls lets en 24 [aOp op k u s l, cI (n : Int)] R := by
  obtain ⟨x1, x2, x3, x4, hv⟩ := R.v_agg
  unfold resP at hbin
  show PCalls Tryz.prog 24 4 (fun b => [.one (.ptr (cellsR lets en b)), aOp op k u s l, cI (n : Int)]) (.tup [R.v, cI R.e]) (InvR lets en)
  rw [hv] at hbin ⊢
  generalize R.e = e at *
  refine PCalls.of_M TYok (z := 4) (qs := [.agg [.int .i64 x1, .sl (x2.map Lf.encI), .int .i64 x3, .sl (x4.map Lf.encI)], cI e]) [.cell 6 40, .tmp 7] 167 Tryz.func24 (by kernel_rfl) rfl rfl rfl fun G b rows hI => ?_
  simp only [St.initP, initEnv, Nat.reduceAdd, List.cons_append, List.nil_append]
  repeat' (first | ((first | apply U_ | (apply Ug_; exact rfl; exact rfl) | (apply Ugq_; exact rfl; exact rfl) | apply Lex.u | (apply Lex.g; exact rfl; exact rfl) | (apply Lex.gq; exact rfl; exact rfl)); (first | exact QX.B TYok | exact QX.Nil TYok | exact QX.Idx TYok | exact QX.Ext TYok | exact QX.Build TYok | exact QCd (hbin)); exact rfl) | refine SX.Alloc TYok (h := ?_) | refine SX.Store TYok (h := ?_) | refine SX.Box TYok (h := ?_) | (apply S_callp (h0) (g := 1000000); exact rfl; exact rfl; exact rfl; exact rfl; (first | assumption | exact ⟨_, rfl, by assumption⟩); exact EvD.auto; intro _ hI2) | (apply S_callp (h1) (g := 1000000); exact rfl; exact rfl; exact rfl; exact rfl; (first | assumption | exact ⟨_, rfl, by assumption⟩); exact EvD.auto; intro _ hI3) | refine SC ?_ | (apply S_isnil TYok; exact rfl; exact rfl; exact rfl; exact Ev.auto; intro bn hnil) | (apply RG.gT; exact rfl; exact rfl; (first | assumption | decide)) | (apply RG.gF; exact rfl; exact rfl; (first | assumption | decide | (rw [ne_eq, Bool.not_eq_true]; assumption) | (rw [ne_eq, Bool.not_eq_false]; assumption)); exact rfl) | (apply W.draw2 (id := 9) [0, 1, 3, 7, 15, 0, 32, 96, 224, 480, 0, 1024, 4095, 8191, 8191, 32767, 65535] [[0], [40], [41], [42], [43], [0], [45], [46], [47], [48], [4], [50], [44, 49, 51], [52], [52]] 15 [(40, 1), (41, 1099511627776), (42, 2199023255552), (43, 4398046511104), (44, 8796093022208), (45, 1), (46, 35184372088832), (47, 70368744177664), (48, 140737488355328), (49, 281474976710656), (50, 16), (51, 1125899906842624), (52, 2832341953150976), (53, 4503599627370496), (54, 4503599627370496)] mixed (by kernel_rfl) rfl rfl) | (apply W.draw2 (id := 11) [0, 1, 3, 7, 15, 0, 32, 96, 224, 480, 0, 1024, 4095, 8191, 8191, 32767, 65535] [[0], [57], [58], [59], [60], [0], [62], [63], [64], [65], [4], [67], [61, 66, 68], [69], [69]] 15 [(57, 1), (58, 144115188075855872), (59, 288230376151711744), (60, 576460752303423488), (61, 1152921504606846976), (62, 1), (63, 4611686018427387904), (64, 9223372036854775808), (65, 18446744073709551616), (66, 36893488147419103232), (67, 16), (68, 147573952589676412928), (69, 371240724483404726272), (70, 590295810358705651712), (71, 590295810358705651712)] mixed (by kernel_rfl) rfl rfl) | (refine W.condA (ht := fun hb => ?_) (hf := fun hb => ?_) <;> (try simp at hb) <;> (try (exfalso; omega))))
  all_goals exact FinP.ret 1000000 rfl hI3 rfl ResM.auto
theorem value_ok (hL : LetsOk lets) (he : en.Ok) : ∀ (n : Nat), n ≤ lets.length → ∀ (d : Nat) (e : Exp), rightF d e = true → tempF e = false → OkE e → VCalls lets en 24 [aE e, cI (n : Int)] (valF lets en n e) := by
  intro n
  induction n using Nat.strongRecOn with
  | _ n ihn =>
  intro hn d
  induction d with
  | zero => intro e hr; obtain ⟨op, k, u, s, l⟩ := e; rw [rightF] at hr; cases hr
  | succ d ih =>
  intro e hr ht hok
  obtain ⟨op, k, u, s, l⟩ := e
  cases hok with
  | mk hs hl hx =>
  rw [aE_mk, valF, evF_mk]
  have fit : ∀ x, rightF d x = true ∧ tempF x = false → (valF lets en n x).fit := fun x h => evF_fit he (tabF_fit he hL n hn) d x h.1 h.2
  unfold stepF
  rcases stat_cases hr ht with ⟨rfl, rfl, hk⟩ | ⟨rfl, rfl⟩ | ⟨rfl, rfl⟩ | ⟨rfl, rfl⟩ | ⟨h1, h2⟩
  · rw [if_pos rfl]
    refine v_num _ ?_
    split
    · exact Of_ok k 1000 hk (by unfold i64B; omega) (by omega)
    · exact Of_ok k 1 hk (by unfold i64B; omega) (by omega)
  · rw [if_neg (by omega), if_pos rfl]
    refine v_name _ (vname_ok hL he n hn s fun i hi => ?_)
    have hy := hL.2 _ (nth_mem (show i < lets.length by omega))
    have hst := statF_yes hy.1
    exact ihn i hi (by omega) 12 _ hst.1 hst.2 hy.2
  · rw [if_neg (by omega), if_neg (by omega), if_pos rfl]
    exact v_look _ (.inl ⟨rfl, rfl⟩) he
  · rw [if_neg (by omega), if_neg (by omega), if_neg (by omega), if_pos rfl]
    exact v_look _ (.inr ⟨rfl, rfl⟩) he
  · rw [if_neg (by omega), if_neg (by omega), if_neg (by omega), if_neg (by omega)]
    have arg : ∀ j, j < l.length → VCalls lets en 24 [aE (nth l j), cI (n : Int)] (nth (l.map (evF lets en (tabF lets en n))) j) ∧ (nth (l.map (evF lets en (tabF lets en n))) j).fit := fun j hj => by
      rw [nth_map2 hj]
      have hm := nth_mem hj
      exact ⟨ih _ (h2 _ hm).1 (h2 _ hm).2 (hx _ hm), fit _ (h2 _ hm)⟩
    generalize l.map (evF lets en (tabF lets en n)) = A at *
    obtain ⟨g0, f0⟩ := arg 0 (by omega)
    cases h0 : nth A 0 with
    | err e => rw [h0] at g0 f0; exact v_bad f0 (by omega) (by omega) g0
    | ok a =>
      rw [h0] at g0 f0
      dsimp only
      by_cases h12 : op = 12
      · subst h12
        rw [if_pos rfl]
        exact v_not (by omega) g0
      rw [if_neg h12]
      by_cases h15 : op = 15
      · subst h15
        rw [if_pos rfl]
        split
        · rename_i hz
          exact v_if (by omega) g0 (.inl ⟨hz, rfl⟩) (arg 2 (by omega)).1
        · rename_i hz
          exact v_if (by omega) g0 (.inr ⟨hz, rfl⟩) (arg 1 (by omega)).1
      rw [if_neg h15]
      split
      · rename_i hz
        exact v_short (by omega) g0 hz
      · rename_i hz
        obtain ⟨g1, f1⟩ := arg 1 (by omega)
        cases h1' : nth A 1 with
        | err e => rw [h1'] at g1 f1; exact v_bad1 f1 (by omega) (by omega) (by omega) g0 g1
        | ok c => rw [h1'] at g1 f1; exact v_two (by omega) (by omega) (by omega) g0 g1 (binary_ok op f0 f1 (by omega))
end
end Go.Proofs.YtjedkgogjehigaaGreat
end
section
set_option linter.unusedVariables false
set_option linter.unusedSimpArgs false
set_option maxHeartbeats 8000000
set_option linter.unusedSectionVars false
namespace Go.Proofs.YtjedkgogjehigaaGreat
open Lf Go
attribute [local irreducible] PureOp EffOp Ev RG W Then InBlock Lf.Fin nth App InitE Pick SubE EvL EvD EvP EvR ResL Lf.Lex SubR SubBR RA RAll EvC FinO FinM ResM ResD FinS val pw digs trimL
section
abbrev xV (lets : List Let) : PV := .agg [.str [], .str [], .int .i64 0, .int .i64 0, .int .i64 0, .int .i64 0, .int .i64 0, .int .i64 0, .int .i64 0, .int .i64 0, .sl (lets.map encL), .int .i64 0, .int .i64 0, .int .i64 0, .str [], .slnil, .int .i64 0, .slnil, .slnil, .int .i64 0, .slnil, .int .i64 0, .int .i64 0, .int .i64 0, .int .i64 0]
abbrev vV (v : EnvV) : PV := .agg (encEnv v)
def EnvQ.V (en : EnvQ) : EnvV := ⟨en.names, en.vals.map fqOf, en.iss, en.rates.map fqOf⟩
/-- what Value asks for -/
def askF (lets : List Let) (e : Exp) (v : EnvV) : Bool := (statF e && decide (lets.length ≤ 20)) && (!(lets.any fun y => !statF y.body) && validF v)
structure LIn (lets : List Let) : Prop where
  len : lets.length ≤ 9223372036854775807
  ok : ∀ y ∈ lets, OkE y.body
theorem lets_ok {lets : List Let} (h : LIn lets) (h1 : lets.length ≤ 20) (h2 : (lets.any fun y => !statF y.body) = false) : LetsOk lets := by
  refine ⟨h1, fun y hy => ⟨?_, h.ok y hy⟩⟩
  cases hs : statF y.body with
  | true => rfl
  | false =>
    rw [List.any_eq_true.2 ⟨y, hy, by rw [hs]; rfl⟩] at h2
    cases h2
theorem lets_any {lets : List Let} (h : LetsOk lets) : (lets.any fun y => !statF y.body) = false := by
  cases hs : lets.any fun y => !statF y.body with
  | false => rfl
  | true =>
    obtain ⟨y, hy, h2⟩ := List.any_eq_true.1 hs
    rw [(h.2 y hy).1] at h2
    cases h2
theorem env_q {v : EnvV} (hv : v.Len) (h : validF v = true) : ∃ en : EnvQ, en.Ok ∧ v = en.V := by
  unfold validF at h
  simp only [Bool.and_eq_true, decide_eq_true_iff, Bool.not_eq_true'] at h
  obtain ⟨⟨⟨h1, h2⟩, h3⟩, h4⟩ := h
  obtain ⟨V, o1, e1⟩ := rats h3
  obtain ⟨R, o2, e2⟩ := rats h4
  obtain ⟨N, vs, I, rs⟩ := v
  simp only at e1 e2 h1 h2
  subst e1 e2
  exact ⟨⟨N, V, I, R⟩, ⟨o1, o2, by simp at h1; show N.length = V.length; omega, by simp at h2; show I.length = R.length; omega, hv.h1, hv.h3⟩, rfl⟩
variable {lets : List Let} {e : Exp} {v : EnvV}
theorem value_arg (hl : LIn lets) (he : OkE e) (hv : v.Len) (h : askF lets e v = false) : ACalls Tryz.prog 7 [xV lets, aE e, vV v] (.tup [zF0, cI 1]) := by
  have s1 := stat_ok e he
  have s2 := containsL_ok lets 22 [] (fun y => !statF y.body) hl.len (fun y hy => badL_ok y (hl.ok y hy))
  have s3 := valid_ok v hv
  have hbad : ∀ b : Prop, ((statF e = true ∧ (lets.length : Int) ≤ 20) ∧ (lets.any fun y => !statF y.body) = false) ∧ validF v = true → False := fun _ q => by
    unfold askF at h
    rw [q.1.1.1, decide_eq_true (by omega), q.1.2, q.2] at h
    cases h
  obtain ⟨op, k, u, s, l⟩ := e
  obtain ⟨N, V, I, R⟩ := v
  clear h
  generalize statF (.mk op k u s l) = b1 at *
  generalize (lets.any fun y => !statF y.body) = b2 at *
  generalize validF ⟨N, V, I, R⟩ = b3 at *
  have hbad := hbad True
  refine ACalls.of_M TYok (qs := [zF0, cI 1]) [.cell 6 40, .tmp 7] 63 Tryz.func7 (by kernel_rfl) rfl rfl rfl fun G => ?_
  refine W.initA (hw := ?_)
  repeat' (first | ((first | apply U_ | (apply Ug_; exact rfl; exact rfl) | (apply Ugq_; exact rfl; exact rfl) | apply Lex.u | (apply Lex.g; exact rfl; exact rfl) | (apply Lex.gq; exact rfl; exact rfl)); (first | exact QX.B TYok | exact QX.Len TYok | exact QX.Ext TYok | exact QX.Build TYok | exact QCd (s1) | exact QCd (s2) | exact QCd (s3)); exact rfl) | refine SX.Alloc TYok (h := ?_) | refine SX.Store TYok (h := ?_) | refine SX.Box TYok (h := ?_) | refine SC ?_ | (apply RG.gT; exact rfl; exact rfl; (first | assumption | decide)) | (apply RG.gF; exact rfl; exact rfl; (first | assumption | decide | (rw [ne_eq, Bool.not_eq_true]; assumption) | (rw [ne_eq, Bool.not_eq_false]; assumption)); exact rfl) | (apply W.draw2 (id := 7) [0, 1, 3, 7, 0, 16, 48, 127, 127, 383, 1023, 2047, 4095, 8191] [[9], [50], [51], [52], [9], [54], [55], [56], [9], [58]] 10 [(50, 512), (51, 1125899906842624), (52, 2251799813685248), (53, 4503599627370496), (54, 512), (55, 18014398509481984), (56, 36028797018963968), (57, 72057594037927936), (58, 512), (59, 288230376151711744)] mixed (by kernel_rfl) rfl rfl) | (refine W.condA (ht := fun hb => ?_) (hf := fun hb => ?_) <;> (try simp at hb) <;> (try (exfalso; first | exact hbad hb | omega))))
  all_goals first
    | exact FinM.ret (ResM.cell rfl rfl rfl rfl zeroSubF (ResM.tmp rfl rfl PSub.rfl' ResM.nil))
    | trace_state
theorem validF_q {en : EnvQ} (he : en.Ok) : validF en.V = true := by
  have any : ∀ {L : List Rat}, (∀ r ∈ L, okF r) → ((L.map fqOf).any fun q => !q.right) = false := fun {L} h => by
    cases hs : (L.map fqOf).any fun q => !q.right with
    | false => rfl
    | true =>
      obtain ⟨q, hq, h2⟩ := List.any_eq_true.1 hs
      obtain ⟨r, hr, rfl⟩ := List.mem_map.1 hq
      have hp := den_pos r
      have hr' := h r hr
      have e : (fqOf r).right = true := by
        unfold Fq.right fqOf rightFB
        have c := sgn_cases r.den
        rw [num_right hr'.1, num_right hr'.2, decide_eq_true (show sgn r.den = 1 by omega), val_mag, val_mag, sgn_mag, show mag r.den = r.den by omega, num_den_gcd]; rfl
      rw [e] at h2
      cases h2
  unfold validF EnvQ.V
  simp only
  rw [any he.v, any he.r, decide_eq_true (by simp [he.l1]), decide_eq_true (by simp [he.l2])]
  rfl
theorem envq_len {en : EnvQ} (he : en.Ok) : en.V.Len := by
  have ok : ∀ {L : List Rat}, (∀ r ∈ L, okF r) → ∀ q ∈ L.map fqOf, FqOk q := fun {L} h q hq => by
    obtain ⟨r, hr, rfl⟩ := List.mem_map.1 hq
    have h1 := num_len (h r hr).1
    have h2 := num_len (h r hr).2
    exact ⟨by show (digs (mag r.num)).length ≤ _; omega, by show (digs (mag r.den)).length ≤ _; omega⟩
  have := he.l1
  have := he.l2
  have := he.b1
  have := he.b2
  exact ⟨he.b1, by show (en.vals.map fqOf).length ≤ _; rw [List.length_map]; omega, he.b2, by show (en.rates.map fqOf).length ≤ _; rw [List.length_map]; omega, ok he.v, ok he.r⟩
theorem vV_q (en : EnvQ) : vV en.V = .agg [.sl (en.names.map encS), .sl (en.vals.map encQ), .sl (en.iss.map encS), .sl (en.rates.map encQ)] := by
  show PV.agg [_, .sl ((en.vals.map fqOf).map encF), _, .sl ((en.rates.map fqOf).map encF)] = _
  rw [slF_of, slF_of]; rfl
theorem invR_nil {lets : List Let} {en : EnvQ} : InvR lets en [] := ⟨[], rfl, fun k v h => by simp [mget] at h⟩
theorem valF_fit {lets : List Let} {en : EnvQ} {e : Exp} (hL : LetsOk lets) (he : en.Ok) (hst : statF e = true) : (valF lets en lets.length e).fit :=
  evF_fit he (tabF_fit he hL lets.length (Nat.le_refl _)) 12 e (statF_yes hst).1 (statF_yes hst).2
attribute [local irreducible] sgn mag gcdZ quoZ remZ fullZ fullE
theorem value_yes {en : EnvQ} (hL : LetsOk lets) (he : en.Ok) (hst : statF e = true) (hoe : OkE e) : ACalls Tryz.prog 7 [xV lets, aE e, vV en.V] (resP (valF lets en lets.length e)) := by
  have s1 := stat_ok e hoe
  have hlen := hL.1
  have s2 := containsL_ok lets 22 [] (fun y => !statF y.body) (by omega) (fun y hy => badL_ok y (hL.2 y hy).2)
  have s3 := valid_ok en.V (envq_len he)
  have hv := value_ok hL he lets.length (Nat.le_refl _) 12 e (statF_yes hst).1 (statF_yes hst).2 hoe
  have hf := valF_fit hL he hst
  have hI0 := invR_nil (lets := lets) (en := en)
  rw [hst] at s1
  rw [lets_any hL] at s2
  rw [validF_q he] at s3
  rw [vV_q]
  change ACalls Tryz.prog 23 [vV en.V] _ at s3
  rw [vV_q] at s3
  generalize valF lets en lets.length e = R at *
  obtain ⟨op, k, u, s, l⟩ := e
  rw [aE_mk] at hv s1 ⊢
  cases R with
  | err c =>
    have hc : c ≠ 0 := hf
    replace hv : PCalls Tryz.prog 24 4 (fun b => [.one (.ptr (cellsR lets en b)), .agg [.int .i64 op, .int .i64 k, .int .i64 u, .str s, .sl (l.map encX)], cI (lets.length : Int)]) (.tup [zF0, cI c]) (InvR lets en) := hv
    show ACalls Tryz.prog 7 _ (.tup [zF0, cI c])
    refine ACalls.of_M TYok (qs := [zF0, cI c]) [.cell 6 40, .tmp 7] 63 Tryz.func7 (by kernel_rfl) rfl rfl rfl fun G => ?_
    refine W.initA (hw := ?_)
    repeat' (first | (refine RG.mplace (C := ⟨0, 0, []⟩) (t := 34) (n := 34) rfl ?_; intro bm) | (refine W.weaken (Le.freeze1 (m := 36) rfl) ?_) | ((first | apply U_ | (apply Ug_; exact rfl; exact rfl) | (apply Ugq_; exact rfl; exact rfl) | apply Lex.u | (apply Lex.g; exact rfl; exact rfl) | (apply Lex.gq; exact rfl; exact rfl)); (first | exact QX.B TYok | exact QX.Len TYok | exact QX.Ext TYok | exact QX.Build TYok | exact QCd (s1) | exact QCd (s2) | exact QCd (s3)); exact rfl) | refine SX.Alloc TYok (h := ?_) | refine SX.Store TYok (h := ?_) | refine SX.Box TYok (h := ?_) | (apply S_makeMap TYok 4; exact rfl; exact rfl) | (apply S_callp (hv) (g := 1000000); exact rfl; exact rfl; exact rfl; exact rfl; (first | assumption | exact ⟨_, rfl, by assumption⟩); exact EvD.auto; intro _ hI2) | refine SC ?_ | (apply RG.gT; exact rfl; exact rfl; (first | assumption | decide)) | (apply RG.gF; exact rfl; exact rfl; (first | assumption | decide | (rw [ne_eq, Bool.not_eq_true]; assumption) | (rw [ne_eq, Bool.not_eq_false]; assumption)); exact rfl) | (apply W.draw2 (id := 7) [0, 1, 3, 7, 0, 16, 48, 127, 127, 383, 1023, 2047, 4095, 8191] [[9], [50], [51], [52], [9], [54], [55], [56], [9], [58]] 10 [(50, 512), (51, 1125899906842624), (52, 2251799813685248), (53, 4503599627370496), (54, 512), (55, 18014398509481984), (56, 36028797018963968), (57, 72057594037927936), (58, 512), (59, 288230376151711744)] mixed (by kernel_rfl) rfl rfl) | (refine W.condA (ht := fun hb => ?_) (hf := fun hb => ?_) <;> (try simp at hb) <;> (try (exfalso; omega))))
    all_goals first
      | exact FinM.ret (ResM.cell rfl rfl rfl rfl zeroSubF (ResM.tmp rfl rfl PSub.rfl' ResM.nil))
      | trace_state
  | ok r =>
    have hr : okF r := hf
    have l1 := num_len hr.1
    have l2 := num_len hr.2
    have c1 := (clone_ok (digs (mag r.num)) (by omega)).data rfl
    have c2 := (clone_ok (digs (mag r.den)) (by omega)).data rfl
    replace hv : PCalls Tryz.prog 24 4 (fun b => [.one (.ptr (cellsR lets en b)), .agg [.int .i64 op, .int .i64 k, .int .i64 u, .str s, .sl (l.map encX)], cI (lets.length : Int)]) (.tup [zF r, cI 0]) (InvR lets en) := hv
    show ACalls Tryz.prog 7 _ (.tup [zF r, cI 0])
    refine ACalls.of_M TYok (qs := [zF r, cI 0]) [.cell 6 40, .tmp 7] 63 Tryz.func7 (by kernel_rfl) rfl rfl rfl fun G => ?_
    refine W.initA (hw := ?_)
    repeat' (first | (refine RG.mplace (C := ⟨0, 0, []⟩) (t := 34) (n := 34) rfl ?_; intro bm) | (refine W.weaken (Le.freeze1 (m := 36) rfl) ?_) | ((first | apply U_ | (apply Ug_; exact rfl; exact rfl) | (apply Ugq_; exact rfl; exact rfl) | apply Lex.u | (apply Lex.g; exact rfl; exact rfl) | (apply Lex.gq; exact rfl; exact rfl)); (first | exact QX.B TYok | exact QX.Len TYok | exact QX.Ext TYok | exact QX.Build TYok | exact QCd (s1) | exact QCd (s2) | exact QCd (s3) | exact QCd (c1) | exact QCd (c2)); exact rfl) | refine SX.Alloc TYok (h := ?_) | refine SX.Store TYok (h := ?_) | refine SX.Box TYok (h := ?_) | (apply S_makeMap TYok 4; exact rfl; exact rfl) | (apply S_callp (hv) (g := 1000000); exact rfl; exact rfl; exact rfl; exact rfl; (first | assumption | exact ⟨_, rfl, by assumption⟩); exact EvD.auto; intro _ hI2) | refine SC ?_ | (apply RG.gT; exact rfl; exact rfl; (first | assumption | decide)) | (apply RG.gF; exact rfl; exact rfl; (first | assumption | decide | (rw [ne_eq, Bool.not_eq_true]; assumption) | (rw [ne_eq, Bool.not_eq_false]; assumption)); exact rfl) | (apply W.draw2 (id := 7) [0, 1, 3, 7, 0, 16, 48, 127, 127, 383, 1023, 2047, 4095, 8191] [[9], [50], [51], [52], [9], [54], [55], [56], [9], [58]] 10 [(50, 512), (51, 1125899906842624), (52, 2251799813685248), (53, 4503599627370496), (54, 512), (55, 18014398509481984), (56, 36028797018963968), (57, 72057594037927936), (58, 512), (59, 288230376151711744)] mixed (by kernel_rfl) rfl rfl) | (refine W.condA (ht := fun hb => ?_) (hf := fun hb => ?_) <;> (try simp at hb) <;> (try (exfalso; omega))))
    all_goals first
      | exact FinM.ret ResM.auto
      | trace_state
end
end Go.Proofs.YtjedkgogjehigaaGreat
end
section
set_option linter.unusedVariables false
set_option linter.unusedSimpArgs false
set_option maxHeartbeats 8000000
set_option linter.unusedSectionVars false
namespace Go.Proofs.YtjedkgogjehigaaGreat
open Lf Go
attribute [local irreducible] PureOp EffOp Ev RG W Then InBlock Lf.Fin nth App InitE Pick SubE EvL EvD EvP EvR ResL Lf.Lex SubR SubBR RA RAll EvC FinO FinM ResM ResD FinS val pw digs trimL
section
variable {L lets : List Let} {us : List Int}
theorem unit_ok (hL : L.length ≤ 20) (hu : us.length = L.length) (e : Exp) (hr : rightF 12 e = true) : ACalls Tryz.prog 32 [scV L us, aE e] (.tup [cI (ofU L us e []).t.u, .agg [(ofU L us e []).t.p, .int .i64 (ofU L us e []).t.e]]) := by
  have h := ofU_ok hL hu 12 e [] hr (by simp)
  refine unit_all ?_
  cases hR : ofU L us e [] with
  | ok u => rw [hR] at h; exact .inl ⟨u, h, rfl⟩
  | bad p x => rw [hR] at h; exact .inr ⟨p, x, h, rfl⟩
theorem scoped_ok (hl : lets.length ≤ 20) (hr : ∀ y ∈ lets, rightF 12 y.body = true) : ACalls Tryz.prog 31 [slL lets] (.pv (scV lets (tabU lets lets.length))) :=
  scoped_walk hl (fun k => (ofU (lets.take k) (tabU lets k) (nth lets k).body []).t.u) (fun k => (ofU (lets.take k) (tabU lets k) (nth lets k).body []).t.p) (fun k => (ofU (lets.take k) (tabU lets k) (nth lets k).body []).t.e) _ (tabU_len _ _) (fun k hk => tabU_nth lets hk) fun k hk => by
    rw [tabU_take lets (by omega)]
    exact unit_ok (by rw [List.length_take]; omega) (by rw [tabU_len, List.length_take]; omega) _ (hr _ (nth_mem hk))
theorem badU_ok (y : Let) (h : OkE y.body) : ACalls Tryz.prog 29 [aL y] (.pv (cB (!rightF 12 y.body))) := by
  have h1 := rightExp_ok y.body h
  generalize rightF 12 y.body = b at *
  obtain ⟨nm, op, k, u, s, l⟩ := y
  refine ACalls.of_W (qs := [cB (!b)]) [2] 7 Tryz.func29 (by kernel_rfl) rfl rfl rfl fun G => ?_
  refine W.initA (hw := ?_)
  repeat' (first | ((first | apply U_); (first | exact QX.B TYok | exact QCd (h1)); exact rfl) | refine SX.Box TYok (h := ?_) | refine SC ?_ | (refine W.condA (ht := fun hb => ?_) (hf := fun hb => ?_) <;> (try simp at hb) <;> (try (exfalso; omega))))
  all_goals exact Fin.ret ResL.auto
/-- what Of gives -/
def ofT (lets : List Let) (e : Exp) : UT :=
  if (rightF 12 e && decide (lets.length ≤ 20)) && !(lets.any fun y => !rightF 12 y.body) then (ofU lets (tabU lets lets.length) e []).t else ⟨0, .slnil, 1⟩
theorem ofT_ok (hl : LIn lets) {e : Exp} (he : OkE e) : ACalls Tryz.prog 11 [xV lets, aE e] (.tup [cI (ofT lets e).u, .one (ofT lets e).p, cI (ofT lets e).e]) := by
  have h1 := rightExp_ok e he
  have h2 := containsL_ok lets 29 [] (fun y => !rightF 12 y.body) hl.len (fun y hy => badU_ok y (hl.ok y hy))
  unfold ofT
  by_cases hc : ((rightF 12 e && decide (lets.length ≤ 20)) && !(lets.any fun y => !rightF 12 y.body)) = true
  · rw [if_pos hc]
    simp only [Bool.and_eq_true, decide_eq_true_iff, Bool.not_eq_true'] at hc
    obtain ⟨⟨q1, q2⟩, q3⟩ := hc
    have hr : ∀ y ∈ lets, rightF 12 y.body = true := fun y hy => by
      cases hs : rightF 12 y.body with
      | true => rfl
      | false => rw [List.any_eq_true.2 ⟨y, hy, by rw [hs]; rfl⟩] at q3; cases q3
    have h3 := scoped_ok q2 hr
    have h4 := unit_ok q2 (tabU_len lets lets.length) e q1
    rw [q1] at h1
    rw [q3] at h2
    generalize (ofU lets (tabU lets lets.length) e []).t = R at *
    obtain ⟨ru, rp, re⟩ := R
    obtain ⟨op, k, u, s, l⟩ := e
    refine ACalls.of_W (qs := [cI ru, .one rp, cI re]) [4, 5, 6] 38 Tryz.func11 (by kernel_rfl) rfl rfl rfl fun G => ?_
    refine W.initA (hw := ?_)
    repeat' (first | ((first | apply U_ | (apply Ug_; exact rfl; exact rfl) | (apply Ugq_; exact rfl; exact rfl) | apply Lex.u | (apply Lex.g; exact rfl; exact rfl) | (apply Lex.gq; exact rfl; exact rfl)); (first | exact QX.B TYok | exact QX.Len TYok | exact QX.Ext TYok | exact QCd (h1) | exact QCd (h2) | exact QCd (h3) | exact QCd (h4)); exact rfl) | refine SX.Alloc TYok (h := ?_) | refine SX.Store TYok (h := ?_) | refine SX.Box TYok (h := ?_) | refine SC ?_ | (apply RG.gT; exact rfl; exact rfl; (first | assumption | decide)) | (apply RG.gF; exact rfl; exact rfl; (first | assumption | decide | (rw [ne_eq, Bool.not_eq_true]; assumption) | (rw [ne_eq, Bool.not_eq_false]; assumption)); exact rfl) | apply LexS.nil | (apply LexS.f; exact rfl; (first | (apply FreshV.alloc TYok; exact rfl; exact rfl; exact rfl; exact rfl) | (apply FreshV.lit TYok; (repeat (first | exact EvR.nil | apply EvR.cons Ev.auto)); exact rfl; exact rfl; exact rfl; exact rfl; exact rfl; exact rfl; exact rfl; exact rfl; exact rfl) | (apply FreshV.box; exact Ev.auto; exact rfl; exact rfl; exact rfl)); exact rfl; exact rfl; exact rfl) | (apply LexS.s; exact rfl; exact rfl; (apply StoreV.mk TYok; exact Ev.auto; exact Ev.auto; exact rfl; exact rfl; exact rfl; exact rfl; exact rfl)) | ((first | apply LexS.u | (apply LexS.g; exact rfl; exact rfl) | (apply LexS.gq; exact rfl; exact rfl)); (repeat (first | (apply NB.cons; exact rfl) | exact NB.nil rfl)); (first | exact QX.B TYok | exact QX.Len TYok | exact QX.Ext TYok | exact QCd (h1) | exact QCd (h2) | exact QCd (h3) | exact QCd (h4)); exact rfl; exact rfl; exact rfl) | (apply W.draw2 (id := 5) [0, 0, 2, 0, 8, 1, 39, 127] [[8], [9], [34], [9], [36], [33], [35], [37]] 8 [(33, 256), (34, 512), (35, 17179869184), (36, 512), (37, 68719476736), (4, 8589934592), (5, 34359738368), (6, 137438953472)] mixed (by kernel_rfl) rfl rfl) | (refine W.drawS (id := 4) [0, 1, 3, 0, 15, 31, 63, 63, 0, 383, 1023] [[2], [26], [27], [3], [28, 29], [30], [25], [25], [], [31], [9, 32]] [(10, (9, ?_)), (8, (9, ?_))] [(10, 9), (8, 9)] mixed (by kernel_rfl) rfl ?_; rotate_left 2) | (refine W.condA (ht := fun hb => ?_) (hf := fun hb => ?_) <;> (try simp at hb) <;> (try (exfalso; omega))))
    all_goals first
      | exact Fin.ret ResL.auto
      | (exfalso; omega)
      | trace_state
  · rw [if_neg hc]
    have hbad : (rightF 12 e = true ∧ (lets.length : Int) ≤ 20) ∧ (lets.any fun y => !rightF 12 y.body) = false → False := fun q => by
      apply hc
      rw [q.1.1, decide_eq_true (by omega), q.2]; rfl
    clear hc
    generalize rightF 12 e = b1 at *
    generalize (lets.any fun y => !rightF 12 y.body) = b2 at *
    obtain ⟨op, k, u, s, l⟩ := e
    refine ACalls.of_W (qs := [cI 0, .one .slnil, cI 1]) [4, 5, 6] 38 Tryz.func11 (by kernel_rfl) rfl rfl rfl fun G => ?_
    refine W.initA (hw := ?_)
    repeat' (first | ((first | apply U_ | (apply Ug_; exact rfl; exact rfl) | (apply Ugq_; exact rfl; exact rfl) | apply Lex.u | (apply Lex.g; exact rfl; exact rfl) | (apply Lex.gq; exact rfl; exact rfl)); (first | exact QX.B TYok | exact QX.Len TYok | exact QX.Ext TYok | exact QCd (h1) | exact QCd (h2)); exact rfl) | refine SX.Alloc TYok (h := ?_) | refine SX.Store TYok (h := ?_) | refine SX.Box TYok (h := ?_) | refine SC ?_ | (apply RG.gT; exact rfl; exact rfl; (first | assumption | decide)) | (apply RG.gF; exact rfl; exact rfl; (first | assumption | decide | (rw [ne_eq, Bool.not_eq_true]; assumption) | (rw [ne_eq, Bool.not_eq_false]; assumption)); exact rfl) | (apply W.draw2 (id := 5) [0, 0, 2, 0, 8, 1, 39, 127] [[8], [9], [34], [9], [36], [33], [35], [37]] 8 [(33, 256), (34, 512), (35, 17179869184), (36, 512), (37, 68719476736), (4, 8589934592), (5, 34359738368), (6, 137438953472)] mixed (by kernel_rfl) rfl rfl) | (refine W.drawA (id := 4) (L := [false, false, false, false, false, false, false, false, false, false, false]) mixed rfl ?_) | exact RAll.nil | (refine RAll.cons rfl ?_ ?_) | (refine RA.step (L := [false, false, false, false, false, false, false, false, false, false, false]) (i := 0) (is := [3, 8]) (by kernel_rfl) ?_) | (refine RA.step (L := [false, false, false, false, false, false, false, false, true, false, false]) (i := 0) (is := [3]) (by kernel_rfl) ?_) | (refine RA.step (L := [false, false, false, true, false, false, false, false, true, false, false]) (i := 0) (is := []) (by kernel_rfl) ?_) | (refine RA.step (L := [true, false, false, true, false, false, false, false, true, false, false]) (i := 1) (is := []) (by kernel_rfl) ?_) | (refine RA.step (L := [true, true, false, true, false, false, false, false, true, false, false]) (i := 2) (is := []) (by kernel_rfl) ?_) | (refine RA.step (L := [true, true, true, true, false, false, false, false, true, false, false]) (i := 4) (is := []) (by kernel_rfl) ?_) | (refine RA.step (L := [true, true, true, true, true, false, false, false, true, false, false]) (i := 5) (is := []) (by kernel_rfl) ?_) | (refine RA.step (L := [true, true, true, true, true, true, false, false, true, false, false]) (i := 6) (is := [7]) (by kernel_rfl) ?_) | (refine RA.step (L := [true, true, true, true, true, true, false, true, true, false, false]) (i := 6) (is := []) (by kernel_rfl) ?_) | (refine RA.step (L := [true, true, true, true, true, true, true, true, true, false, false]) (i := 9) (is := []) (by kernel_rfl) ?_) | (refine RA.step (L := [true, true, true, true, true, true, true, true, true, true, false]) (i := 10) (is := []) (by kernel_rfl) ?_) | (refine RA.done (L := [true, true, true, true, true, true, true, true, true, true, true]) (by kernel_rfl) ?_) | (refine RA.step (L := [true, true, true, true, true, true, true, false, true, false, false]) (i := 7) (is := [9]) (by kernel_rfl) ?_) | (refine RA.step (L := [true, true, true, true, true, true, true, false, true, true, false]) (i := 7) (is := []) (by kernel_rfl) ?_) | (refine RA.step (L := [true, false, false, false, false, false, false, false, true, false, false]) (i := 1) (is := [3]) (by kernel_rfl) ?_) | (refine RA.step (L := [true, true, false, false, false, false, false, false, true, false, false]) (i := 2) (is := [3]) (by kernel_rfl) ?_) | (refine RA.step (L := [true, true, true, false, false, false, false, false, true, false, false]) (i := 3) (is := []) (by kernel_rfl) ?_) | (refine RA.step (L := [false, false, false, true, false, false, false, false, false, false, false]) (i := 0) (is := [8]) (by kernel_rfl) ?_) | (refine RA.step (L := [true, false, false, true, false, false, false, false, false, false, false]) (i := 1) (is := [8]) (by kernel_rfl) ?_) | (refine RA.step (L := [true, true, false, true, false, false, false, false, false, false, false]) (i := 2) (is := [8]) (by kernel_rfl) ?_) | (refine RA.step (L := [true, true, true, true, false, false, false, false, false, false, false]) (i := 4) (is := [8]) (by kernel_rfl) ?_) | (refine RA.step (L := [true, true, true, true, true, false, false, false, false, false, false]) (i := 5) (is := [8]) (by kernel_rfl) ?_) | (refine RA.step (L := [true, true, true, true, true, true, false, false, false, false, false]) (i := 6) (is := [7, 8]) (by kernel_rfl) ?_) | (refine RA.step (L := [true, true, true, true, true, true, false, true, false, false, false]) (i := 6) (is := [8]) (by kernel_rfl) ?_) | (refine RA.step (L := [true, true, true, true, true, true, true, true, false, false, false]) (i := 8) (is := []) (by kernel_rfl) ?_) | (refine RA.step (L := [true, true, true, true, true, true, true, false, false, false, false]) (i := 7) (is := [8]) (by kernel_rfl) ?_) | (refine RA.step (L := [true, false, false, false, false, false, false, false, false, false, false]) (i := 1) (is := [3, 8]) (by kernel_rfl) ?_) | (refine RA.step (L := [true, true, false, false, false, false, false, false, false, false, false]) (i := 2) (is := [3, 8]) (by kernel_rfl) ?_) | (refine RA.step (L := [true, true, true, false, false, false, false, false, false, false, false]) (i := 3) (is := [8]) (by kernel_rfl) ?_) | (refine W.condA (ht := fun hb => ?_) (hf := fun hb => ?_) <;> (try simp at hb) <;> (try (exfalso; first | exact hbad hb | omega))))
    all_goals first
      | exact Fin.ret ResL.auto
      | (exfalso; omega)
      | trace_state
end
end Go.Proofs.YtjedkgogjehigaaGreat
end
