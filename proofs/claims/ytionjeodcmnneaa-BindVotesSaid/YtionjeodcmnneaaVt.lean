/-
  BindVotes: the counting of votes
-/
import Derived.Test.YtionjeodcmnneaaPre
set_option linter.unusedVariables false
set_option linter.unusedSimpArgs false
set_option maxHeartbeats 8000000
namespace Go.Proofs.Ytionjeodcmnneaa
open Lf Go
attribute [local irreducible] PureOp EffOp Ev RG W Then InBlock Lf.Fin nth App InitE Pick SubE SubF SubG EvL EvD EvP EvR ResL Lf.Lex SubR SubBR RA RAll EvC FinO FinM ResM FinB ResD

/-! ### votes -/
structure Vo where
  seat : Int
  day : Int
  yes : Bool
  deriving Inhabited
def encVo (v : Vo) : List Cell := [.int .i64 v.seat, .int .i64 v.day, .bool v.yes]
abbrev slVo (l : List Vo) : PV := .one (.sl (l.map encVo))
def usOk (us : List Int) : Bool := us.all fun n => decide (0 ≤ n) && decide (n ≤ 1000000000)
def vsOk (L : Int) : Int → List Vo → Bool
  | _, [] => true
  | day, v :: r => decide (0 ≤ v.seat) && decide (v.seat < L) && decide (day ≤ v.day) && decide (v.day ≤ 200000) && vsOk L v.day r
def rightV (us : List Int) (vs : List Vo) : Bool := usOk us && vsOk us.length 0 vs && decide ((us.length : Int) ≤ 20000) && decide (us.sum ≤ 1000000000) && decide ((vs.length : Int) ≤ 2000)

theorem usOk_drop {us : List Int} {k : Nat} (h : k < us.length) : usOk (us.drop k) = (decide (0 ≤ nth us k) && decide (nth us k ≤ 1000000000) && usOk (us.drop (k + 1))) := by
  rw [drop_nth h]; simp [usOk]
theorem vsOk_drop {L d : Int} {vs : List Vo} {k : Nat} (h : k < vs.length) : vsOk L d (vs.drop k) = (decide (0 ≤ (nth vs k).seat) && decide ((nth vs k).seat < L) && decide (d ≤ (nth vs k).day) && decide ((nth vs k).day ≤ 200000) && vsOk L (nth vs k).day (vs.drop (k + 1))) := by
  rw [drop_nth h]; rfl

theorem rightv_ok (us : List Int) (vs : List Vo) (hu : us.length ≤ 1000000) (hv : vs.length ≤ 1000000) : ACalls Try.prog 39 [slI us, slVo vs] (.pv (cB (rightV us vs))) := by
  refine ACalls.of_W (qs := [cB (rightV us vs)]) [4] 69 Try.func39 (by kernel_rfl) rfl rfl rfl fun G => ?_
  refine W.initA (hw := ?_)
  repeat' (first
    | apply RG.nil
    | apply Lex.nil
    | apply Then.n
    | apply Then.r
    | apply Then.x
    | apply InBlock.n
    | apply InBlock.r
    | apply InBlock.hit
    | (apply InBlock.miss; exact rfl)
    | apply W.seq
    | apply W.region
    | apply W.block
    | apply W.skip
    | apply W.ret
    | apply W.exit
    | ((first | apply U_ | (apply Ug_; exact rfl; exact rfl) | (apply Ugq_; exact rfl; exact rfl)); (first
    | exact QX.Move TYok
    | exact QX.Asg TYok
    | exact QX.Fld TYok
    | exact QX.Ld TYok
    | exact QX.Bin TYok
    | exact QX.Pick TYok
    | exact QX.Len TYok
    | exact QX.Idx TYok); exact rfl)
    | refine SX.Alloc TYok (h := ?_)
    | refine SX.Store TYok (h := ?_)
    | (apply RG.gT; exact rfl; exact rfl; (first | assumption | decide))
    | (apply RG.gF; exact rfl; exact rfl; (first | assumption | decide | (rw [ne_eq, Bool.not_eq_true]; assumption) | (rw [ne_eq, Bool.not_eq_false]; assumption)); exact rfl)
    | (refine W.condA (ht := fun hb => ?_) (hf := fun hb => ?_) <;> (try simp at hb) <;> (try (exfalso; omega))))
  apply W.loopP (σ := Nat × Int) 69 [0, 1, 11, 12] (fun (k, s) => k ≤ us.length ∧ 0 ≤ s ∧ s ≤ 1000000000 * k ∧ usOk us = usOk (us.drop k) ∧ us.sum = s + (us.drop k).sum) (fun (k, s) => [(13, vI k), (5, vI s)]) (fun _ => []) (fun (k, _) => us.length - k) ((0, 0))
  case hp => repeat (first | exact Pick.nil | apply Pick.cons rfl)
  case h0 =>
    refine ⟨by simp, ?_⟩
    exact Le.auto
  case round =>
    rintro ⟨k, s⟩ ⟨h1, h2, h3, h4, h5⟩
    apply W.norm (by repeat (first | exact App.nil | apply App.cons))
    repeat' (first
      | apply RG.nil
      | apply Lex.nil
      | apply Then.n
      | apply Then.r
      | apply Then.x
      | apply InBlock.n
      | apply InBlock.r
      | apply InBlock.hit
      | (apply InBlock.miss; exact rfl)
      | apply W.seq
      | apply W.region
      | apply W.block
      | apply W.skip
      | apply W.ret
      | apply W.exit
      | ((first | apply U_ | (apply Ug_; exact rfl; exact rfl) | (apply Ugq_; exact rfl; exact rfl)); (first
    | exact QX.Move TYok
    | exact QX.Asg TYok
    | exact QX.Fld TYok
    | exact QX.Ld TYok
    | exact QX.Bin TYok
    | exact QX.Pick TYok
    | exact QX.Len TYok
    | exact QX.Idx TYok); exact rfl)
      | refine SX.Alloc TYok (h := ?_)
      | refine SX.Store TYok (h := ?_)
      | (apply RG.gT; exact rfl; exact rfl; (first | assumption | decide))
      | (apply RG.gF; exact rfl; exact rfl; (first | assumption | decide | (rw [ne_eq, Bool.not_eq_true]; assumption) | (rw [ne_eq, Bool.not_eq_false]; assumption)); exact rfl)
      | (refine W.condA (ht := fun hb => ?_) (hf := fun hb => ?_) <;> (try simp at hb) <;> (try (exfalso; omega))))
    · have e : rightV us vs = false := by
        rw [rightV, h4, usOk_drop ‹_›]
        rcases hb with h | h
        · simp [show ¬ (0 ≤ nth us k) by omega]
        · simp [show ¬ (nth us k ≤ 1000000000) by omega]
      rw [e]
      exact Fin.ret ResL.auto
    · refine ⟨(k + 1, s + nth us k), ⟨by omega, by omega, by omega, ?_, ?_⟩, ?_, ?_⟩
      · rw [h4, usOk_drop ‹_›]; simp [hb]
      · rw [h5, drop_nth ‹_›]; simp; omega
      · exact Le.auto
      · simp only; omega
    obtain rfl : k = us.length := by omega
    simp at h4 h5
    apply W.loopP (σ := Nat × Int) 69 [0, 1, 5, 27, 28] (fun (k, d) => k ≤ vs.length ∧ vsOk us.length 0 vs = vsOk us.length d (vs.drop k)) (fun (k, d) => [(29, vI k), (8, vI d)]) (fun _ => []) (fun (k, _) => vs.length - k) ((0, 0))
    case hp => repeat (first | exact Pick.nil | apply Pick.cons rfl)
    case h0 =>
      refine ⟨by simp, ?_⟩
      exact Le.auto
    case round =>
      rintro ⟨k, d⟩ ⟨g1, g2⟩
      apply W.norm (by repeat (first | exact App.nil | apply App.cons))
      repeat' (first
        | apply RG.nil
        | apply Lex.nil
        | apply Then.n
        | apply Then.r
        | apply Then.x
        | apply InBlock.n
        | apply InBlock.r
        | apply InBlock.hit
        | (apply InBlock.miss; exact rfl)
        | apply W.seq
        | apply W.region
        | apply W.block
        | apply W.skip
        | apply W.ret
        | apply W.exit
        | ((first | apply U_ | (apply Ug_; exact rfl; exact rfl) | (apply Ugq_; exact rfl; exact rfl)); (first
    | exact QX.Move TYok
    | exact QX.Asg TYok
    | exact QX.Fld TYok
    | exact QX.Ld TYok
    | exact QX.Bin TYok
    | exact QX.Pick TYok
    | exact QX.Len TYok
    | exact QX.Idx TYok); exact rfl)
        | refine SX.Alloc TYok (h := ?_)
        | refine SX.Store TYok (h := ?_)
        | (apply RG.gT; exact rfl; exact rfl; (first | assumption | decide))
        | (apply RG.gF; exact rfl; exact rfl; (first | assumption | decide | (rw [ne_eq, Bool.not_eq_true]; assumption) | (rw [ne_eq, Bool.not_eq_false]; assumption)); exact rfl)
        | (refine W.condA (ht := fun hb => ?_) (hf := fun hb => ?_) <;> (try simp at hb) <;> (try (exfalso; omega))))
      · have e : rightV us vs = false := by
          rw [rightV, g2, vsOk_drop ‹_›]
          rcases hb with ((h | h) | h) | h
          · simp [show ¬ (0 ≤ (nth vs k).seat) by omega]
          · simp [show ¬ ((nth vs k).seat < us.length) by omega]
          · simp [show ¬ (d ≤ (nth vs k).day) by omega]
          · simp [show ¬ ((nth vs k).day ≤ 200000) by omega]
        rw [e]
        exact Fin.ret ResL.auto
      · refine ⟨(k + 1, (nth vs k).day), ⟨by omega, ?_⟩, ?_, ?_⟩
        · rw [g2, vsOk_drop ‹_›]
          simp [hb]
        · exact Le.auto
        · simp only; omega
      · obtain rfl : k = vs.length := by omega
        have e : rightV us vs = (decide ((us.length : Int) ≤ 20000) && decide (s ≤ 1000000000) && decide ((vs.length : Int) ≤ 2000)) := by
          rw [rightV, g2, h4, ← h5]; simp [usOk, vsOk]
        rw [e]
        exact Fin.ret ResL.auto
def lastB (s d : Int) : Bool → List Vo → Bool
  | b, [] => b
  | b, v :: r => lastB s d (if v.seat = s ∧ v.day ≤ d then v.yes else b) r
theorem lastB_append (s d : Int) (l m : List Vo) : ∀ b, lastB s d b (l ++ m) = lastB s d (lastB s d b l) m := by
  induction l with
  | nil => intro b; rfl
  | cons v l ih => intro b; exact ih _

def setsF (n d : Int) : List Bool → List Vo → List Bool
  | bs, [] => bs
  | bs, v :: r => setsF n d (if v.day ≤ d ∧ 0 ≤ v.seat ∧ v.seat < n then bs.set v.seat.toNat v.yes else bs) r
def lastF (vs : List Vo) (n d : Int) : List Bool := if n < 0 ∨ n > 20000 then [] else setsF n d (List.replicate n.toNat false) vs

theorem last_ok (vs : List Vo) (n d : Int) (hv : vs.length ≤ 1000000) : ACalls Try.prog 40 [slVo vs, cI n, cI d] (.pv (slB (lastF vs n d))) := by
  refine ACalls.of_W (qs := [slB (lastF vs n d)]) [6] 47 Try.func40 (by kernel_rfl) rfl rfl rfl fun G => ?_
  refine W.initA (hw := ?_)
  repeat' (first
    | apply RG.nil
    | apply Lex.nil
    | apply Then.n
    | apply Then.r
    | apply Then.x
    | apply InBlock.n
    | apply InBlock.r
    | apply InBlock.hit
    | (apply InBlock.miss; exact rfl)
    | apply W.seq
    | apply W.region
    | apply W.block
    | apply W.skip
    | apply W.ret
    | apply W.exit
    | ((first | apply U_ | (apply Ug_; exact rfl; exact rfl) | (apply Ugq_; exact rfl; exact rfl)); (first
    | exact QX.Move TYok
    | exact QX.Asg TYok
    | exact QX.Fld TYok
    | exact QX.Ld TYok
    | exact QX.Bin TYok
    | exact QX.Pick TYok
    | exact QX.Len TYok
    | exact QX.Idx TYok); exact rfl)
    | refine SX.Alloc TYok (h := ?_)
    | refine SX.Store TYok (h := ?_)
    | refine SX.Make TYok (h := ?_)
    | (apply RG.gT; exact rfl; exact rfl; (first | assumption | decide))
    | (apply RG.gF; exact rfl; exact rfl; (first | assumption | decide | (rw [ne_eq, Bool.not_eq_true]; assumption) | (rw [ne_eq, Bool.not_eq_false]; assumption)); exact rfl)
    | (refine W.condA (ht := fun hb => ?_) (hf := fun hb => ?_) <;> (try simp at hb) <;> (try (exfalso; omega))))
  · rw [lastF, if_pos hb]
    exact Fin.ret ResL.auto
  apply W.loopP (σ := Nat × List Bool) 47 [1, 2, 7, 18, 19] (fun (k, bs) => k ≤ vs.length ∧ bs.length = n.toNat ∧ lastF vs n d = setsF n d bs (vs.drop k)) (fun (k, bs) => [(20, vI k)]) (fun (k, bs) => [(17, ⟨4, 1, bs.map encB⟩)]) (fun (k, bs) => vs.length - k) ((0, List.replicate n.toNat false))
  case hp => repeat (first | exact Pick.nil | apply Pick.cons rfl)
  case h0 =>
    refine ⟨⟨by simp, by simp, by rw [lastF, if_neg (by omega)]; rfl⟩, ?_⟩
    exact Le.auto
  case round =>
    rintro ⟨k, bs⟩ ⟨h1, h2, h3⟩
    apply W.norm (by repeat (first | exact App.nil | apply App.cons))
    repeat' (first
      | apply RG.nil
      | apply Lex.nil
      | apply Then.n
      | apply Then.r
      | apply Then.x
      | apply InBlock.n
      | apply InBlock.r
      | apply InBlock.hit
      | (apply InBlock.miss; exact rfl)
      | apply W.seq
      | apply W.region
      | apply W.block
      | apply W.skip
      | apply W.ret
      | apply W.exit
      | ((first | apply U_ | (apply Ug_; exact rfl; exact rfl) | (apply Ugq_; exact rfl; exact rfl)); (first
    | exact QX.Move TYok
    | exact QX.Asg TYok
    | exact QX.Fld TYok
    | exact QX.Ld TYok
    | exact QX.Bin TYok
    | exact QX.Pick TYok
    | exact QX.Len TYok
    | exact QX.Idx TYok); exact rfl)
      | refine SX.Alloc TYok (h := ?_)
      | refine SX.Store TYok (h := ?_)
      | refine SX.Make TYok (h := ?_)
      | (apply RG.gT; exact rfl; exact rfl; (first | assumption | decide))
      | (apply RG.gF; exact rfl; exact rfl; (first | assumption | decide | (rw [ne_eq, Bool.not_eq_true]; assumption) | (rw [ne_eq, Bool.not_eq_false]; assumption)); exact rfl)
      | (refine W.condA (ht := fun hb => ?_) (hf := fun hb => ?_) <;> (try simp at hb) <;> (try (exfalso; omega))))
    · refine ⟨(k + 1, bs.set (nth vs k).seat.toNat (nth vs k).yes), ⟨by omega, by simp [h2], ?_⟩, ?_, ?_⟩
      · rw [h3, drop_nth ‹_›, setsF, if_pos (by omega)]
      · exact Le.auto
      · simp only; omega
    · refine ⟨(k + 1, bs), ⟨by omega, h2, ?_⟩, ?_, ?_⟩
      · rw [h3, drop_nth ‹_›, setsF, if_neg (by omega)]
      · exact Le.auto
      · simp only; omega
    · have e : lastF vs n d = bs := by
        obtain rfl : k = vs.length := by omega
        rw [h3]; simp [setsF]
      rw [e]
      exact Fin.ret ResL.auto

theorem setsF_len (n d : Int) (vs : List Vo) : ∀ bs, (setsF n d bs vs).length = bs.length := by
  induction vs with
  | nil => intro bs; rfl
  | cons v r ih => intro bs; rw [setsF, ih]; split <;> simp
theorem setsF_nth (n d : Int) (vs : List Vo) : ∀ (bs : List Bool) (i : Nat), (i : Int) < n → i < bs.length → (bs.length : Int) = n → nth (setsF n d bs vs) i = lastB i d (nth bs i) vs := by
  induction vs with
  | nil => intro bs i _ _ _; rfl
  | cons v r ih =>
    intro bs i h1 h2 h3
    rw [setsF, lastB]
    by_cases hc : v.day ≤ d ∧ 0 ≤ v.seat ∧ v.seat < n
    · rw [if_pos hc, ih _ i h1 (by simp; omega) (by simp; omega)]
      congr 1
      by_cases he : v.seat = i
      · rw [if_pos ⟨he, hc.1⟩, he]
        simp [nth, List.getD, h2]
      · rw [if_neg (by omega)]
        have : v.seat.toNat ≠ i := by omega
        simp [nth, List.getD, this]
    · rw [if_neg hc, ih _ i h1 h2 h3, if_neg (by omega)]
theorem lastF_len {vs : List Vo} {n d : Int} (h : ¬ (n < 0 ∨ n > 20000)) : (lastF vs n d).length = n.toNat := by
  rw [lastF, if_neg h, setsF_len]; simp
theorem lastF_nth {vs : List Vo} {n d : Int} (h : ¬ (n < 0 ∨ n > 20000)) {i : Nat} (hi : (i : Int) < n) : nth (lastF vs n d) i = lastB i d false vs := by
  rw [lastF, if_neg h, setsF_nth n d vs _ i hi (by simp; omega) (by simp; omega)]
  congr 1
  simp [nth, List.getD, show i < n.toNat by omega]
def yesS (us : List Int) (vs : List Vo) (d : Int) : Nat → Int
  | 0 => 0
  | k + 1 => yesS us vs d k + if lastB k d false vs then nth us k else 0
def sumS (us : List Int) : Nat → Int
  | 0 => 0
  | k + 1 => sumS us k + nth us k
theorem usOk_nth {us : List Int} (h : usOk us = true) {k : Nat} (hk : k < us.length) : 0 ≤ nth us k ∧ nth us k ≤ 1000000000 := by
  have := List.all_eq_true.1 h us[k] (List.getElem_mem hk)
  rw [nth_eq hk]; simpa using this
theorem sumS_bound {us : List Int} (h : usOk us = true) (vs : List Vo) (d : Int) : ∀ k, k ≤ us.length → 0 ≤ yesS us vs d k ∧ yesS us vs d k ≤ sumS us k ∧ sumS us k ≤ 1000000000 * k
  | 0, _ => by simp [sumS, yesS]
  | k + 1, hk => by
    have ih := sumS_bound h vs d k (by omega)
    have := usOk_nth h (show k < us.length by omega)
    rw [yesS, sumS]
    split <;> omega
theorem rightV_us {us : List Int} {vs : List Vo} (h : rightV us vs = true) : usOk us = true ∧ us.length ≤ 20000 ∧ vs.length ≤ 2000 := by
  simp [rightV] at h
  exact ⟨h.1.1.1.1, by omega, by omega⟩
def tallyF (us : List Int) (vs : List Vo) (d : Int) : Int × Int × Int := if rightV us vs then (yesS us vs d us.length, sumS us us.length, 0) else (0, 0, 1)

theorem tally_ok (us : List Int) (vs : List Vo) (d : Int) (hu : us.length ≤ 1000000) (hv : vs.length ≤ 1000000) : ACalls Try.prog 21 [slI us, slVo vs, cI d] (.tup [cI (tallyF us vs d).1, cI (tallyF us vs d).2.1, cI (tallyF us vs d).2.2]) := by
  refine ACalls.of_W (qs := [cI (tallyF us vs d).1, cI (tallyF us vs d).2.1, cI (tallyF us vs d).2.2]) [6, 7, 8] 42 Try.func21 (by kernel_rfl) rfl rfl rfl fun G => ?_
  refine W.initA (hw := ?_)
  repeat' (first
    | apply RG.nil
    | apply Lex.nil
    | apply Then.n
    | apply Then.r
    | apply Then.x
    | apply InBlock.n
    | apply InBlock.r
    | apply InBlock.hit
    | (apply InBlock.miss; exact rfl)
    | apply W.seq
    | apply W.region
    | apply W.block
    | apply W.skip
    | apply W.ret
    | apply W.exit
    | ((first | apply U_); (first
    | exact QX.Move TYok
    | exact QX.Asg TYok
    | exact QX.Ld TYok
    | exact QX.Bin TYok
    | exact QX.Un TYok
    | exact QX.Len TYok
    | exact QX.Idx TYok
    | (apply Q_call (rightv_ok us vs hu hv); exact EvL.auto; exact rfl)
    | (apply Q_calld (last_ok vs us.length d hv); exact EvD.auto)); exact rfl)
    | (refine W.condA (ht := fun hb => ?_) (hf := fun hb => ?_) <;> (try simp at hb) <;> (try (exfalso; omega))))
  · rw [tallyF, if_neg (by rw [hb]; simp)]
    exact Fin.ret ResL.auto
  have hr := rightV_us hb
  have hL : (lastF vs us.length d).length = us.length := by rw [lastF_len (by omega)]; omega
  apply W.loopP (σ := Nat) 42 [0, 19, 20] (fun k => k ≤ us.length) (fun k => [(6, vI (yesS us vs d k)), (7, vI (sumS us k)), (21, vI k)]) (fun _ => []) (fun k => us.length - k) (0)
  case hp => repeat (first | exact Pick.nil | apply Pick.cons rfl)
  case h0 =>
    refine ⟨by simp, ?_⟩
    exact Le.auto
  case round =>
    rintro k h1
    have hs := sumS_bound hr.1 vs d k h1
    have hn : k < us.length → 0 ≤ nth us k ∧ nth us k ≤ 1000000000 := fun h => usOk_nth hr.1 h
    have hq : k < us.length → nth (lastF vs us.length d) k = lastB k d false vs := fun h => lastF_nth (by omega) (by omega)
    apply W.norm (by repeat (first | exact App.nil | apply App.cons))
    by_cases hk : k < us.length
    · have hn := hn hk
      have hq := hq hk
      repeat' (first
        | apply RG.nil
        | apply Lex.nil
        | apply Then.n
        | apply Then.r
        | apply Then.x
        | apply InBlock.n
        | apply InBlock.r
        | apply InBlock.hit
        | (apply InBlock.miss; exact rfl)
        | apply W.seq
        | apply W.region
        | apply W.block
        | apply W.skip
        | apply W.ret
        | apply W.exit
        | ((first | apply U_); (first
    | exact QX.Move TYok
    | exact QX.Asg TYok
    | exact QX.Ld TYok
    | exact QX.Bin TYok
    | exact QX.Un TYok
    | exact QX.Len TYok
    | exact QX.Idx TYok); exact rfl)
        | (refine W.condA (ht := fun hb => ?_) (hf := fun hb => ?_) <;> (try simp at hb) <;> (try (exfalso; omega))))
      · have e1 : yesS us vs d (k + 1) = yesS us vs d k + nth us k := by rw [yesS, ← hq, if_pos hb]
        refine ⟨k + 1, by omega, ?_, by omega⟩
        rw [e1]
        exact Le.auto
      · have e1 : yesS us vs d (k + 1) = yesS us vs d k := by rw [yesS, ← hq, if_neg (by simp [hb])]; omega
        refine ⟨k + 1, by omega, ?_, by omega⟩
        rw [e1]
        exact Le.auto
    · repeat' (first
        | apply RG.nil
        | apply Lex.nil
        | apply Then.n
        | apply Then.r
        | apply Then.x
        | apply InBlock.n
        | apply InBlock.r
        | apply InBlock.hit
        | (apply InBlock.miss; exact rfl)
        | apply W.seq
        | apply W.region
        | apply W.block
        | apply W.skip
        | apply W.ret
        | apply W.exit
        | ((first | apply U_); (first
    | exact QX.Move TYok
    | exact QX.Asg TYok
    | exact QX.Ld TYok
    | exact QX.Bin TYok
    | exact QX.Un TYok
    | exact QX.Len TYok
    | exact QX.Idx TYok); exact rfl)
        | (refine W.condA (ht := fun hb => ?_) (hf := fun hb => ?_) <;> (try simp at hb) <;> (try (exfalso; omega))))
      obtain rfl : k = us.length := by omega
      rw [tallyF, if_pos ‹rightV us vs = true›]
      exact Fin.ret ResL.auto

end Go.Proofs.Ytionjeodcmnneaa
