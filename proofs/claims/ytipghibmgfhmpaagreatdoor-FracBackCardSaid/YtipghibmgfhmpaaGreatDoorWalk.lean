/-
  Digits: cutting zeros off, comparing, adding.
-/
import Derived.Test.YtipghibmgfhmpaaGreatDoorTypes
import Derived.Test.YtipghibmgfhmpaaGreatDoorLfBit
import Derived.Test.YtipghibmgfhmpaaGreatDoorLfArm
set_option linter.unusedVariables false
set_option linter.unusedSimpArgs false
set_option maxHeartbeats 8000000
namespace Go.Proofs.YtipghibmgfhmpaaGreatDoor
open Lf Go
attribute [local irreducible] PureOp EffOp Ev RG W Then InBlock Lf.Fin nth App InitE Pick SubE SubF SubG EvL EvD EvP EvR ResL Lf.Lex SubR SubBR RA RAll EvC FinO FinM ResM FinB ResD FinS val pw digs trimL

theorem trim_step {l : List Int} {n : Nat} (h : n < l.length) (h0 : nth l n = 0) : trimL (l.take (n + 1)) = trimL (l.take n) := by
  rw [take_nth h, h0, trimL_zero]
theorem trim_stop {l : List Int} {n : Nat} (h : n < l.length) (h0 : ¬ nth l n = 0) : trimL (l.take (n + 1)) = l.take (n + 1) := by
  rw [take_nth h, trimL_keep h0]
theorem trim_step' {l : List Int} {n : Nat} (h : n ≤ l.length) (hn : 0 < n) (h0 : nth l (n - 1) = 0) : trimL (l.take n) = trimL (l.take (n - 1)) := by
  obtain ⟨m, rfl⟩ : ∃ m, n = m + 1 := ⟨n - 1, by omega⟩
  exact trim_step (by omega) h0
theorem trim_stop' {l : List Int} {n : Nat} (h : n ≤ l.length) (h0 : 0 < n → ¬ nth l (n - 1) = 0) : trimL (l.take n) = l.take n := by
  cases n with
  | zero => simp [trimL]
  | succ m => exact trim_stop (by omega) (h0 (by omega))

theorem trim_ok (l : List Int) (hl : l.length ≤ 9223372036854775807) : ACalls Tryz.prog 80 [slI l] (.pv (slI (trimL l))) := by
  refine ACalls.of_W (qs := [slI (trimL l)]) [2] 21 Tryz.func80 (by kernel_rfl) rfl rfl rfl fun G => ?_
  refine W.initA (hw := ?_)
  repeat' (first
    | ((first | apply U_ | (apply Ug_; exact rfl; exact rfl) | (apply Ugq_; exact rfl; exact rfl)); (first
    | exact QX.Move TYok
    | exact QX.Asg TYok
    | exact QX.Ld TYok
    | exact QX.Bin TYok
    | exact QX.Pick TYok
    | exact QX.Len TYok
    | exact QX.Idx TYok
    | exact QX.Cut TYok); exact rfl)
    | apply RG.nil
    | apply Lex.nil
    | apply Then.n
    | apply Then.r
    | apply Then.x
    | apply InBlock.n
    | apply InBlock.r
    | apply InBlock.hit
    | (apply InBlock.miss; exact rfl)
    | apply W.seq
    | apply W.region
    | apply W.block
    | apply W.skip
    | apply W.ret
    | apply W.exit
    | (apply S_isnil TYok; exact rfl; exact rfl; exact rfl; exact Ev.auto; intro bn hnil)
    | (apply RG.gT; exact rfl; exact rfl; (first | assumption | decide))
    | (apply RG.gF; exact rfl; exact rfl; (first | assumption | decide | (rw [ne_eq, Bool.not_eq_true]; assumption) | (rw [ne_eq, Bool.not_eq_false]; assumption)); exact rfl)
    | (refine W.condA (ht := fun hb => ?_) (hf := fun hb => ?_) <;> (try simp at hb) <;> (try (exfalso; omega))))
  apply W.loopP (σ := Nat) 21 [0] (fun n => n ≤ l.length ∧ trimL l = trimL (l.take n)) (fun n => [(3, vI n)]) (fun _ => []) (fun n => n) (l.length)
  case hp => repeat (first | exact Pick.nil | apply Pick.cons rfl)
  case h0 =>
    refine ⟨by simp, ?_⟩
    exact Le.auto
  case round =>
    rintro n ⟨h1, h2⟩
    apply W.norm (by repeat (first | exact App.nil | apply App.cons))
    repeat' (first
      | ((first | apply U_ | (apply Ug_; exact rfl; exact rfl) | (apply Ugq_; exact rfl; exact rfl)); (first
    | exact QX.Move TYok
    | exact QX.Asg TYok
    | exact QX.Ld TYok
    | exact QX.Bin TYok
    | exact QX.Pick TYok
    | exact QX.Len TYok
    | exact QX.Idx TYok
    | exact QX.Cut TYok); exact rfl)
      | apply RG.nil
      | apply Lex.nil
      | apply Then.n
      | apply Then.r
      | apply Then.x
      | apply InBlock.n
      | apply InBlock.r
      | apply InBlock.hit
      | (apply InBlock.miss; exact rfl)
      | apply W.seq
      | apply W.region
      | apply W.block
      | apply W.skip
      | apply W.ret
      | apply W.exit
      | (apply S_isnil TYok; exact rfl; exact rfl; exact rfl; exact Ev.auto; intro bn hnil)
      | (apply RG.gT; exact rfl; exact rfl; (first | assumption | decide))
      | (apply RG.gF; exact rfl; exact rfl; (first | assumption | decide | (rw [ne_eq, Bool.not_eq_true]; assumption) | (rw [ne_eq, Bool.not_eq_false]; assumption)); exact rfl)
      | (refine W.condA (ht := fun hb => ?_) (hf := fun hb => ?_) <;> (try simp at hb) <;> (try (exfalso; omega))))
    · refine ⟨n - 1, ⟨by omega, by rw [h2, trim_step' h1 hb.1 hb.2]⟩, ?_, by omega⟩
      exact Le.auto
    · rw [h2, trim_stop' h1 hb]
      exact Fin.ret ResL.auto

theorem trim_lent (l : List Int) (hl : l.length ≤ 9223372036854775807) : SCalls Tryz.prog 80 3 1 (l.map encI) 0 l.length [] (fun b cap => .pv (.one (.sla b (trimL l).length cap))) (l.map encI) := by
  refine SCalls.of_W (qs := (fun b cap => [.one (.sla b (trimL l).length cap)])) [2] 21 Tryz.func80 (by kernel_rfl) rfl rfl rfl rfl fun G b cap => ?_
  simp only [St.initS, initEnv, Nat.reduceAdd]
  repeat' (first
    | ((first | apply U_ | (apply Ug_; exact rfl; exact rfl) | (apply Ugq_; exact rfl; exact rfl)); (first
    | exact QX.Move TYok
    | exact QX.Asg TYok
    | exact QX.Ld TYok
    | exact QX.Bin TYok
    | exact QX.Pick TYok
    | exact QX.Len TYok
    | exact QX.Idx TYok
    | exact QX.Cut TYok
    | (apply Q_lenP TYok; exact Ev.auto; exact rfl; exact rfl)
    | (apply Q_indexP TYok; exact Ev.auto; exact Ev.auto; exact rfl; exact rfl; exact rfl; exact rfl; exact rfl; exact rfl; (intro hg; first | omega | (simp; omega) | (simp at hg; simp; omega)))
    | (apply Q_cutP TYok; exact Ev.auto; exact Ev.auto; exact rfl; exact rfl; exact rfl; exact rfl; (focus (simp; done)); (intro hg; first | omega | (simp; omega) | (simp at hg; simp; omega)))); exact rfl)
    | apply RG.nil
    | apply Lex.nil
    | apply Then.n
    | apply Then.r
    | apply Then.x
    | apply InBlock.n
    | apply InBlock.r
    | apply InBlock.hit
    | (apply InBlock.miss; exact rfl)
    | apply W.seq
    | apply W.region
    | apply W.block
    | apply W.skip
    | apply W.ret
    | apply W.exit
    | (apply S_isnil TYok; exact rfl; exact rfl; exact rfl; exact Ev.auto; intro bn hnil)
    | (apply RG.gT; exact rfl; exact rfl; (first | assumption | decide))
    | (apply RG.gF; exact rfl; exact rfl; (first | assumption | decide | (rw [ne_eq, Bool.not_eq_true]; assumption) | (rw [ne_eq, Bool.not_eq_false]; assumption)); exact rfl)
    | (refine W.condA (ht := fun hb => ?_) (hf := fun hb => ?_) <;> (try simp at hb) <;> (try (exfalso; omega))))
  apply W.loopP (σ := Nat) 21 [0] (fun n => n ≤ l.length ∧ trimL l = trimL (l.take n)) (fun n => [(3, vI n)]) (fun _ => [(0, ⟨3, 1, l.map encI⟩)]) (fun n => n) (l.length)
  case hp => repeat (first | exact Pick.nil | apply Pick.cons rfl)
  case h0 =>
    refine ⟨by simp, ?_⟩
    exact Le.auto
  case round =>
    rintro n ⟨h1, h2⟩
    apply W.norm (by repeat (first | exact App.nil | apply App.cons))
    repeat' (first
      | ((first | apply U_ | (apply Ug_; exact rfl; exact rfl) | (apply Ugq_; exact rfl; exact rfl)); (first
    | exact QX.Move TYok
    | exact QX.Asg TYok
    | exact QX.Ld TYok
    | exact QX.Bin TYok
    | exact QX.Pick TYok
    | exact QX.Len TYok
    | exact QX.Idx TYok
    | exact QX.Cut TYok
    | (apply Q_lenP TYok; exact Ev.auto; exact rfl; exact rfl)
    | (apply Q_indexP TYok; exact Ev.auto; exact Ev.auto; exact rfl; exact rfl; exact rfl; exact rfl; exact rfl; exact rfl; (intro hg; first | omega | (simp; omega) | (simp at hg; simp; omega)))
    | (apply Q_cutP TYok; exact Ev.auto; exact Ev.auto; exact rfl; exact rfl; exact rfl; exact rfl; (focus (simp; done)); (intro hg; first | omega | (simp; omega) | (simp at hg; simp; omega)))); exact rfl)
      | apply RG.nil
      | apply Lex.nil
      | apply Then.n
      | apply Then.r
      | apply Then.x
      | apply InBlock.n
      | apply InBlock.r
      | apply InBlock.hit
      | (apply InBlock.miss; exact rfl)
      | apply W.seq
      | apply W.region
      | apply W.block
      | apply W.skip
      | apply W.ret
      | apply W.exit
      | (apply S_isnil TYok; exact rfl; exact rfl; exact rfl; exact Ev.auto; intro bn hnil)
      | (apply RG.gT; exact rfl; exact rfl; (first | assumption | decide))
      | (apply RG.gF; exact rfl; exact rfl; (first | assumption | decide | (rw [ne_eq, Bool.not_eq_true]; assumption) | (rw [ne_eq, Bool.not_eq_false]; assumption)); exact rfl)
      | (refine W.condA (ht := fun hb => ?_) (hf := fun hb => ?_) <;> (try simp at hb) <;> (try (exfalso; omega))))
    · refine ⟨n - 1, ⟨by omega, by rw [h2, trim_step' h1 hb.1 hb.2]⟩, ?_, by omega⟩
      exact Le.auto
    · have e : n = (trimL l).length := by rw [h2, trim_stop' h1 hb]; simp; omega
      rw [← e]
      exact FinS.ret 0 rfl rfl rfl ResD.auto

def cmpI (x y : Int) : Int := if x < y then -1 else if y < x then 1 else 0
theorem isnan_ok (x : Int) : ACalls Tryz.prog 104 [cI x] (.pv (cB false)) := by
  refine ACalls.of_W (qs := [cB false]) [2] 6 Tryz.func104 (by kernel_rfl) rfl rfl rfl fun G => ?_
  refine W.initA (hw := ?_)
  repeat' (first
    | ((first | apply U_); (first
    | exact QX.Move TYok
    | exact QX.Asg TYok
    | exact QX.Bin TYok); exact rfl)
    | apply RG.nil
    | apply Lex.nil
    | apply Then.n
    | apply Then.r
    | apply Then.x
    | apply InBlock.n
    | apply InBlock.r
    | apply InBlock.hit
    | (apply InBlock.miss; exact rfl)
    | apply W.seq
    | apply W.region
    | apply W.block
    | apply W.skip
    | apply W.ret
    | apply W.exit
    | (refine W.condA (ht := fun hb => ?_) (hf := fun hb => ?_) <;> (try simp at hb) <;> (try (exfalso; omega))))
  rw [show (false : Bool) = !decide (x = x) by simp]
  exact Fin.ret ResL.auto
theorem cmp_ok (x y : Int) : ACalls Tryz.prog 86 [cI x, cI y] (.pv (cI (cmpI x y))) := by
  have h1 := isnan_ok x
  have h2 := isnan_ok y
  refine ACalls.of_W (qs := [cI (cmpI x y)]) [4] 20 Tryz.func86 (by kernel_rfl) rfl rfl rfl fun G => ?_
  refine W.initA (hw := ?_)
  repeat' (first
    | ((first | apply U_); (first
    | exact QX.Move TYok
    | exact QX.Asg TYok
    | exact QX.Bin TYok
    | (apply Q_call (h1); exact EvL.auto; exact rfl)
    | (apply Q_call (h2); exact EvL.auto; exact rfl)); exact rfl)
    | apply RG.nil
    | apply Lex.nil
    | apply Then.n
    | apply Then.r
    | apply Then.x
    | apply InBlock.n
    | apply InBlock.r
    | apply InBlock.hit
    | (apply InBlock.miss; exact rfl)
    | apply W.seq
    | apply W.region
    | apply W.block
    | apply W.skip
    | apply W.ret
    | apply W.exit
    | (refine W.condA (ht := fun hb => ?_) (hf := fun hb => ?_) <;> (try simp at hb) <;> (try (exfalso; omega))))
  · rw [cmpI, if_pos (by omega)]
    exact Fin.ret ResL.auto
  · rw [cmpI, if_neg (by omega), if_pos (by omega)]
    exact Fin.ret ResL.auto
  · rw [cmpI, if_neg (by omega), if_neg (by omega)]
    exact Fin.ret ResL.auto

theorem cmp_len {a b : List Int} (ha : Norm a) (hb : Norm b) (h : ¬ a.length = b.length) : cmpI a.length b.length = cmpI (val a) (val b) := by
  unfold cmpI
  by_cases h1 : a.length < b.length
  · have := val_ltLen ha.dig hb h1
    rw [if_pos (by omega), if_pos this]
  · have := val_ltLen hb.dig ha (by omega)
    rw [if_neg (by omega), if_pos (by omega), if_neg (by omega), if_pos this]
theorem compare_ok (a b : List Int) (na : Norm a) (nb : Norm b) (hl : a.length ≤ 1000000) (hl' : b.length ≤ 1000000) : ACalls Tryz.prog 68 [slI a, slI b] (.pv (cI (cmpI (val a) (val b)))) := by
  have h1 := cmp_ok a.length b.length
  have h2 := fun i : Nat => cmp_ok (nth a i) (nth b i)
  refine ACalls.of_W (qs := [cI (cmpI (val a) (val b))]) [4] 41 Tryz.func68 (by kernel_rfl) rfl rfl rfl fun G => ?_
  refine W.initA (hw := ?_)
  repeat' (first
    | ((first | apply U_ | apply Lex.u | (apply Lex.g; exact rfl; exact rfl) | (apply Lex.gq; exact rfl; exact rfl)); (first
    | exact QX.Move TYok
    | exact QX.Asg TYok
    | exact QX.Ld TYok
    | exact QX.Bin TYok
    | exact QX.Len TYok
    | exact QX.Idx TYok
    | (apply Q_call (h1); exact EvL.auto; exact rfl)); exact rfl)
    | apply RG.nil
    | apply Lex.nil
    | apply Then.n
    | apply Then.r
    | apply Then.x
    | apply InBlock.n
    | apply InBlock.r
    | apply InBlock.hit
    | (apply InBlock.miss; exact rfl)
    | apply W.seq
    | apply W.region
    | apply W.block
    | apply W.skip
    | apply W.ret
    | apply W.exit
    | (apply W.draw2 (id := 6) [0, 0, 3, 7, 0, 0, 48, 112, 255] [[0], [5], [23, 24], [25], [1], [5], [27, 28], [29], [26, 30]] 9 [(23, 1), (24, 32), (25, 25165824), (26, 33554432), (27, 2), (28, 32), (29, 402653184), (30, 536870912), (31, 1140850688)] mixed (by kernel_rfl) rfl rfl)
    | (apply W.draw2 (id := 7) [0, 0, 3, 7, 0, 0, 48, 112, 255, 511] [[0], [5], [32, 33], [34], [1], [5], [36, 37], [38], [35, 39], [40]] 10 [(32, 1), (33, 32), (34, 12884901888), (35, 17179869184), (36, 2), (37, 32), (38, 206158430208), (39, 274877906944), (40, 584115552256), (4, 1099511627776)] mixed (by kernel_rfl) rfl rfl)
    | (refine W.condA (ht := fun hb => ?_) (hf := fun hb => ?_) <;> (try simp at hb) <;> (try (exfalso; omega))))
  · rw [← cmp_len na nb (by omega)]
    exact Fin.ret ResL.auto
  have hab : a.length = b.length := by omega
  apply W.loopP (σ := Nat) 41 [0, 1] (fun n => n ≤ a.length ∧ a.drop n = b.drop n) (fun n => [(5, vI ((n : Int) - 1))]) (fun _ => []) (fun n => n) (a.length)
  case hp => repeat (first | exact Pick.nil | apply Pick.cons rfl)
  case h0 =>
    refine ⟨by rw [List.drop_length, hab, List.drop_length]; simp, ?_⟩
    exact Le.auto
  case round =>
    rintro n ⟨g1, g2⟩
    apply W.norm (by repeat (first | exact App.nil | apply App.cons))
    have hi : ((n : Int) - 1).toNat = n - 1 := by omega
    repeat' (first
      | ((first | apply U_ | apply Lex.u | (apply Lex.g; exact rfl; exact rfl) | (apply Lex.gq; exact rfl; exact rfl)); (first
    | exact QX.Move TYok
    | exact QX.Asg TYok
    | exact QX.Ld TYok
    | exact QX.Bin TYok
    | exact QX.Len TYok
    | exact QX.Idx TYok
    | (apply Q_call (h2 _); exact EvL.auto; exact rfl)); exact rfl)
      | apply RG.nil
      | apply Lex.nil
      | apply Then.n
      | apply Then.r
      | apply Then.x
      | apply InBlock.n
      | apply InBlock.r
      | apply InBlock.hit
      | (apply InBlock.miss; exact rfl)
      | apply W.seq
      | apply W.region
      | apply W.block
      | apply W.skip
      | apply W.ret
      | apply W.exit
      | (apply W.draw2 (id := 6) [0, 0, 3, 7, 0, 0, 48, 112, 255] [[0], [5], [23, 24], [25], [1], [5], [27, 28], [29], [26, 30]] 9 [(23, 1), (24, 32), (25, 25165824), (26, 33554432), (27, 2), (28, 32), (29, 402653184), (30, 536870912), (31, 1140850688)] mixed (by kernel_rfl) rfl rfl)
      | (apply W.draw2 (id := 7) [0, 0, 3, 7, 0, 0, 48, 112, 255, 511] [[0], [5], [32, 33], [34], [1], [5], [36, 37], [38], [35, 39], [40]] 10 [(32, 1), (33, 32), (34, 12884901888), (35, 17179869184), (36, 2), (37, 32), (38, 206158430208), (39, 274877906944), (40, 584115552256), (4, 1099511627776)] mixed (by kernel_rfl) rfl rfl)
      | (refine W.condA (ht := fun hb => ?_) (hf := fun hb => ?_) <;> (try simp at hb) <;> (try (exfalso; omega))))
    · have e : cmpI (nth a (n - 1)) (nth b (n - 1)) = cmpI (val a) (val b) := by
        have hd : a.drop (n - 1 + 1) = b.drop (n - 1 + 1) := by rw [show n - 1 + 1 = n by omega]; exact g2
        unfold cmpI
        by_cases h : nth a (n - 1) < nth b (n - 1)
        · have := val_ltL na.dig nb.dig (by omega) (by omega) hd h
          rw [if_pos h, if_pos this]
        · have := val_ltL nb.dig na.dig (by omega) (by omega) hd.symm (by omega)
          rw [if_neg h, if_pos (by omega), if_neg (by omega), if_pos this]
      rw [← e, ← hi]
      exact Fin.ret ResL.auto
    · refine ⟨n - 1, ⟨by omega, drop_step (by omega) (by omega) hb (by rw [show n - 1 + 1 = n by omega]; exact g2)⟩, ?_, by omega⟩
      exact Le.auto
    · have e : a = b := by
        obtain rfl : n = 0 := by omega
        simpa using g2
      subst e
      rw [show cmpI (val a) (val a) = 0 by simp [cmpI]]
      exact Fin.ret ResL.auto
end Go.Proofs.YtipghibmgfhmpaaGreatDoor
