/-
  Atoms; runs
-/
import Derived.Test.YtacilhkipekjlaaWalk11
set_option linter.unusedVariables false
set_option linter.unusedSimpArgs false
set_option maxHeartbeats 8000000
namespace Go.Proofs.Ytacilhkipekjlaa
open Lf Go
attribute [local irreducible] PureOp EffOp Ev RG W Then InBlock Lf.Fin nth App InitE Pick SubE SubF SubG EvL EvD EvP EvR ResL Lf.Lex SubR SubBR RA RAll EvC FinO FinM ResM FinB ResD

/-! ### what right and few expressions are -/
theorem right_ar : ∀ (d : Nat) (e : Exp), rightF d e = true → ArE e
  | 0, .mk op n u s l, h => by simp [rightF] at h
  | d + 1, .mk op n u s l, h => by
    rw [rightF, Bool.and_eq_true, decide_eq_true_iff] at h
    have hlen := h.1
    have hh := h.2
    have h3 : l.length ≤ 3 := by
      have : opsF op ≤ 3 := by unfold opsF; repeat' split
                               all_goals omega
      omega
    refine ⟨h3, fun x hx => ?_⟩
    split at hh
    · rename_i h0
      have e : opsF op = 0 := by unfold opsF; rw [if_pos (by omega)]
      have := List.length_pos_of_mem hx; omega
    · split at hh
      · have e : opsF op = 0 := by unfold opsF; rw [if_pos (by omega)]
        have := List.length_pos_of_mem hx; omega
      · split at hh
        · simp only [Bool.and_eq_true, List.all_eq_true] at hh
          exact right_ar d x (hh.2 x hx)
        · simp only [Bool.and_eq_true, List.all_eq_true] at hh
          exact right_ar d x (hh.2 x hx)
theorem right_pos : ∀ (d : Nat) (e : Exp), rightF d e = true → 1 ≤ (listF e).length
  | 0, .mk op n u s l, h => by simp [rightF] at h
  | d + 1, .mk op n u s l, h => by
    rw [listF]
    cases hf : framedF op with
    | false => simp
    | true =>
      obtain ⟨g1, g2, g3, -⟩ := right_framed h hf
      simp only [if_true]
      match l, g1 with
      | x :: r, _ =>
        have := right_pos d x (g3 x (by simp))
        rw [listFs, List.length_append]; omega
theorem sumI_mem {l : List Exp} {d : Nat} {x : Exp} (h : x ∈ l) : countF d x ≤ sumI (l.map (countF d)) := by
  induction l with
  | nil => cases h
  | cons y r ih =>
    rw [List.map_cons, sumI_cons]
    have hn := sumI_nn (l := r.map (countF d)) (by
      intro x hx
      obtain ⟨y, _, rfl⟩ := List.mem_map.1 hx
      have := countF_bd d y; omega)
    have := countF_bd d y
    rcases List.mem_cons.1 h with rfl | h
    · omega
    · have := ih h; omega
theorem count_kids {d : Nat} {op n u : Int} {s : Str} {l : List Exp} (h : countF (d + 1) (.mk op n u s l) ≤ 60) : l.length ≤ 60 ∧ countF (d + 1) (.mk op n u s l) = 1 + sumI (l.map (countF d)) ∧ ∀ x ∈ l, countF d x ≤ 60 := by
  rw [countF] at h ⊢
  split at h
  · omega
  · rename_i h6
    rw [if_neg h6]
    exact ⟨by omega, by omega, fun x hx => by have := sumI_mem (d := d) hx; omega⟩
theorem sumI_congr {l : List Exp} {f g : Exp → Int} (h : ∀ x ∈ l, f x = g x) : sumI (l.map f) = sumI (l.map g) := by
  rw [List.map_congr_left h]
theorem count_up : ∀ (d : Nat) (e : Exp), countF d e ≤ 60 → countF (d + 1) e = countF d e
  | 0, _, h => by simp [countF] at h
  | d + 1, .mk op n u s l, h => by
    obtain ⟨h1, h2, h3⟩ := count_kids h
    rw [countF, if_neg (by omega), h2, sumI_congr fun x hx => count_up d x (h3 x hx)]
    omega
theorem count_atoms : ∀ (d : Nat) (e : Exp), countF d e ≤ 60 → ((listF e).length : Int) ≤ countF d e
  | 0, _, h => by simp [countF] at h
  | d + 1, .mk op n u s l, h => by
    obtain ⟨h1, h2, h3⟩ := count_kids h
    rw [listF]
    cases hf : framedF op with
    | false => simp; have := (countF_bd (d + 1) (.mk op n u s l)).1; omega
    | true =>
      simp only [if_true]
      rw [h2]
      have key : ∀ m : List Exp, (∀ x ∈ m, x ∈ l) → ((listFs m).length : Int) ≤ sumI (m.map (countF d)) := by
        intro m
        induction m with
        | nil => intro _; simp [listFs, sumI]
        | cons x r ih =>
          intro hm
          rw [listFs, List.length_append, List.map_cons, sumI_cons]
          have := ih fun y hy => hm y (List.mem_cons_of_mem _ hy)
          have := count_atoms d x (h3 x (hm x (by simp)))
          omega
      have := key l fun x hx => hx
      omega
theorem mem_listFs : ∀ {l : List Exp} {x : Exp}, x ∈ listFs l → ∃ e ∈ l, x ∈ listF e
  | e :: r, x, h => by
    rw [listFs] at h
    rcases List.mem_append.1 h with h | h
    · exact ⟨e, by simp, h⟩
    · obtain ⟨e', h1, h2⟩ := mem_listFs h
      exact ⟨e', List.mem_cons_of_mem _ h1, h2⟩
theorem count_atom : ∀ (d : Nat) (e : Exp), countF d e ≤ 60 → ∀ x ∈ listF e, countF d x ≤ 60
  | 0, _, h => by simp [countF] at h
  | d + 1, .mk op n u s l, h => by
    obtain ⟨h1, h2, h3⟩ := count_kids h
    intro x hx
    rw [listF] at hx
    cases hf : framedF op with
    | false =>
      rw [hf] at hx
      simp at hx
      subst hx; exact h
    | true =>
      rw [hf] at hx
      simp only [if_true] at hx
      obtain ⟨e, q1, q2⟩ := mem_listFs hx
      have := count_atom d e (h3 e q1) x q2
      rw [count_up d x this]; exact this
theorem ok_atom : ∀ (e : Exp), OkE e → ∀ x ∈ listF e, OkE x := by
  intro e
  refine Exp.ind (P := fun e => OkE e → ∀ x ∈ listF e, OkE x) (fun op n u s l ih he x hx => ?_) e
  cases he with
  | mk hs hl h =>
  rw [listF] at hx
  cases hf : framedF op with
  | false =>
    rw [hf] at hx
    simp at hx
    subst hx; exact .mk hs hl h
  | true =>
    rw [hf] at hx
    simp only [if_true] at hx
    obtain ⟨e, q1, q2⟩ := mem_listFs hx
    exact ih e q1 (h e q1) x q2
/-! ### the atoms of an expression; a run -/
def atomsF (e : Exp) : List Exp := if rightF 12 e = true then listF e else []
theorem atomsE_ok (e : Exp) (he : OkE e) (hc : (listF e).length ≤ 1000000) : ACalls Try.prog 12 [aE e] (.pv (slE (atomsF e))) := by
  have h1 := rightExp_ok e he
  unfold atomsF
  cases hr : rightF 12 e with
  | false =>
    rw [hr] at h1
    rw [if_neg (by simp)]
    refine ACalls.of_W (qs := [slE []]) [2] 8 Try.func12 (by kernel_rfl) rfl rfl rfl fun G => ?_
    refine W.initA (hw := ?_)
    repeat' (first
      | apply RG.nil
      | apply Lex.nil
      | apply Then.n
      | apply Then.r
      | apply Then.x
      | apply InBlock.n
      | apply InBlock.r
      | apply InBlock.hit
      | (apply InBlock.miss; exact rfl)
      | apply W.seq
      | apply W.region
      | apply W.block
      | apply W.skip
      | apply W.ret
      | apply W.exit
      | ((first | apply U_); (first
    | exact QX.Asg TYok
    | exact QX.Ld TYok
    | exact QX.Un TYok
    | (apply Q_calld (h1); exact EvD.auto)); exact rfl)
      | refine SX.Box TYok (h := ?_)
      | (refine W.condA (ht := fun hb => ?_) (hf := fun hb => ?_) <;> (try simp at hb) <;> (try (exfalso; omega))))
    exact Fin.ret ResL.auto
  | true =>
    rw [hr] at h1
    rw [if_pos rfl]
    have h2 := atoms_ok e he (right_ar 12 e hr) hc
    refine ACalls.of_W (qs := [slE (listF e)]) [2] 8 Try.func12 (by kernel_rfl) rfl rfl rfl fun G => ?_
    refine W.initA (hw := ?_)
    repeat' (first
      | apply RG.nil
      | apply Lex.nil
      | apply Then.n
      | apply Then.r
      | apply Then.x
      | apply InBlock.n
      | apply InBlock.r
      | apply InBlock.hit
      | (apply InBlock.miss; exact rfl)
      | apply W.seq
      | apply W.region
      | apply W.block
      | apply W.skip
      | apply W.ret
      | apply W.exit
      | ((first | apply U_); (first
    | exact QX.Asg TYok
    | exact QX.Ld TYok
    | exact QX.Un TYok
    | (apply Q_calld (h1); exact EvD.auto)
    | (apply Q_calld (h2); exact EvD.auto)); exact rfl)
      | refine SX.Box TYok (h := ?_)
      | (refine W.condA (ht := fun hb => ?_) (hf := fun hb => ?_) <;> (try simp at hb) <;> (try (exfalso; omega))))
    exact Fin.ret ResL.auto
theorem ratomsE_ok (e : Exp) (he : OkE e) (hc : (listF e).length ≤ 1000000) : ACalls Try.prog 13 [aE e] (.pv (slE (atomsF e))) := by
  have h1 := rrightExp_ok e he
  unfold atomsF
  cases hr : rightF 12 e with
  | false =>
    rw [hr] at h1
    rw [if_neg (by simp)]
    refine ACalls.of_W (qs := [slE []]) [2] 8 Try.func13 (by kernel_rfl) rfl rfl rfl fun G => ?_
    refine W.initA (hw := ?_)
    repeat' (first
      | apply RG.nil
      | apply Lex.nil
      | apply Then.n
      | apply Then.r
      | apply Then.x
      | apply InBlock.n
      | apply InBlock.r
      | apply InBlock.hit
      | (apply InBlock.miss; exact rfl)
      | apply W.seq
      | apply W.region
      | apply W.block
      | apply W.skip
      | apply W.ret
      | apply W.exit
      | ((first | apply U_); (first
    | exact QX.Asg TYok
    | exact QX.Ld TYok
    | exact QX.Un TYok
    | (apply Q_calld (h1); exact EvD.auto)); exact rfl)
      | refine SX.Box TYok (h := ?_)
      | (refine W.condA (ht := fun hb => ?_) (hf := fun hb => ?_) <;> (try simp at hb) <;> (try (exfalso; omega))))
    exact Fin.ret ResL.auto
  | true =>
    rw [hr] at h1
    rw [if_pos rfl]
    have h2 := list_ok e he hc
    refine ACalls.of_W (qs := [slE (listF e)]) [2] 8 Try.func13 (by kernel_rfl) rfl rfl rfl fun G => ?_
    refine W.initA (hw := ?_)
    repeat' (first
      | apply RG.nil
      | apply Lex.nil
      | apply Then.n
      | apply Then.r
      | apply Then.x
      | apply InBlock.n
      | apply InBlock.r
      | apply InBlock.hit
      | (apply InBlock.miss; exact rfl)
      | apply W.seq
      | apply W.region
      | apply W.block
      | apply W.skip
      | apply W.ret
      | apply W.exit
      | ((first | apply U_); (first
    | exact QX.Asg TYok
    | exact QX.Ld TYok
    | exact QX.Un TYok
    | (apply Q_calld (h1); exact EvD.auto)
    | (apply Q_calld (h2); exact EvD.auto)); exact rfl)
      | refine SX.Box TYok (h := ?_)
      | (refine W.condA (ht := fun hb => ?_) (hf := fun hb => ?_) <;> (try simp at hb) <;> (try (exfalso; omega))))
    exact Fin.ret ResL.auto
def oddF (n : Int) : Bool := decide (n < 0) || decide (n ≥ 3)
theorem odd_ok (n : Int) : ACalls Try.prog 25 [cI n] (.pv (cB (oddF n))) := by
  refine ACalls.of_W (qs := [_]) [2] 9 Try.func25 (by kernel_rfl) rfl rfl rfl fun G => ?_
  refine W.initA (hw := ?_)
  repeat' (first
    | apply RG.nil
    | apply Lex.nil
    | apply Then.n
    | apply Then.r
    | apply Then.x
    | apply InBlock.n
    | apply InBlock.r
    | apply InBlock.hit
    | (apply InBlock.miss; exact rfl)
    | apply W.seq
    | apply W.region
    | apply W.block
    | apply W.skip
    | apply W.ret
    | apply W.exit
    | ((first | apply U_ | (apply Ug_; exact rfl; exact rfl) | (apply Ugq_; exact rfl; exact rfl)); (first
    | exact QX.Move TYok
    | exact QX.Asg TYok
    | exact QX.Bin TYok
    | exact QX.Pick TYok); exact rfl)
    | (apply RG.gT; exact rfl; exact rfl; (first | assumption | decide))
    | (apply RG.gF; exact rfl; exact rfl; (first | assumption | decide | (rw [ne_eq, Bool.not_eq_true]; assumption) | (rw [ne_eq, Bool.not_eq_false]; assumption)); exact rfl)
    | (refine W.condA (ht := fun hb => ?_) (hf := fun hb => ?_) <;> (try simp at hb) <;> (try (exfalso; omega))))
  exact Fin.ret ResL.auto
def tokF (days : Int) (t : List Int) : Bool := decide ((t.length : Int) = days) && !(t.any oddF)
def fitF (e : Exp) (ts : List (List Int)) (days : Int) : Bool := rightF 12 e && decide (0 ≤ days) && decide (days ≤ 1000) && !((listF e).any timedF) && decide ((listF e).length = ts.length) && ts.all (tokF days)
def runF (e : Exp) (ts : List (List Int)) (days : Int) : List Int × Int := if fitF e ts days = true then (nodeF days e ts, 0) else ([], 1)
abbrev pairI (r : List Int × Int) : AV := .tup [slI r.1, cI r.2]
theorem fit_rows {e : Exp} {ts : List (List Int)} {days : Int} (h : ts.all (tokF days) = true) : Rows days ts := by
  intro r hr
  have := List.all_eq_true.1 h r hr
  rw [tokF, Bool.and_eq_true, decide_eq_true_iff] at this
  exact this.1
theorem run_ok (e : Exp) (ts : List (List Int)) (days : Int) (he : OkE e) (hc : (listF e).length ≤ 1000000) (ht : ts.length ≤ 9223372036854775807) (hts : ∀ t ∈ ts, t.length ≤ 9223372036854775807) : ACalls Try.prog 10 [aE e, slR ts, cI days] (pairI (runF e ts days)) := by
  have h1 := rightExp_ok e he
  cases hr : rightF 12 e with
  | false =>
    rw [hr] at h1
    have e0 : runF e ts days = ([], 1) := by rw [runF, if_neg (by simp [fitF, hr])]
    rw [e0]
    refine ACalls.of_W (qs := [slI [], cI 1]) [6, 7] 58 Try.func10 (by kernel_rfl) rfl rfl rfl fun G => ?_
    refine W.initA (hw := ?_)
    repeat' (first
      | apply RG.nil
      | apply Lex.nil
      | apply Then.n
      | apply Then.r
      | apply Then.x
      | apply InBlock.n
      | apply InBlock.r
      | apply InBlock.hit
      | (apply InBlock.miss; exact rfl)
      | apply W.seq
      | apply W.region
      | apply W.block
      | apply W.skip
      | apply W.ret
      | apply W.exit
      | ((first | apply U_ | (apply Ug_; exact rfl; exact rfl) | (apply Ugq_; exact rfl; exact rfl)); (first
    | exact QX.Move TYok
    | exact QX.Asg TYok
    | exact QX.Ld TYok
    | exact QX.Bin TYok
    | exact QX.Pick TYok
    | exact QX.Un TYok
    | exact QX.Len TYok
    | exact QX.Idx TYok
    | exact QX.Build TYok
    | (apply Q_calld (h1); exact EvD.auto)); exact rfl)
      | refine SX.Box TYok (h := ?_)
      | (apply RG.gT; exact rfl; exact rfl; (first | assumption | decide))
      | (apply RG.gF; exact rfl; exact rfl; (first | assumption | decide | (rw [ne_eq, Bool.not_eq_true]; assumption) | (rw [ne_eq, Bool.not_eq_false]; assumption)); exact rfl)
      | (refine W.condA (ht := fun hb => ?_) (hf := fun hb => ?_) <;> (try simp at hb) <;> (try (exfalso; omega))))
    exact Fin.ret ResL.auto
  | true =>
    rw [hr] at h1
    have h2 := atoms_ok e he (right_ar 12 e hr) hc
    have h3 : ACalls Try.prog 23 [slE (listF e), .one (.fn 24 [])] (.pv (cB ((listF e).any timedF))) := containsE_ok (listF e) 24 [] timedF (by omega) (fun x hx => timed_ok x (ok_atom e he x hx))
    by_cases hg : fitF e ts days = true
    · rw [runF, if_pos hg]
      rw [fitF] at hg
      simp only [Bool.and_eq_true, decide_eq_true_iff, Bool.not_eq_true'] at hg
      obtain ⟨⟨⟨⟨⟨g1, g2⟩, g3⟩, g4⟩, g5⟩, g6⟩ := hg
      rw [g4] at h3
      have h4 := node_ok 12 e ts days hr he g2 g3 (fit_rows (e := e) g6) (by omega) (by omega)
      refine ACalls.of_W (qs := [slI (nodeF days e ts), cI 0]) [6, 7] 58 Try.func10 (by kernel_rfl) rfl rfl rfl fun G => ?_
      refine W.initA (hw := ?_)
      repeat' (first
        | apply RG.nil
        | apply Lex.nil
        | apply Then.n
        | apply Then.r
        | apply Then.x
        | apply InBlock.n
        | apply InBlock.r
        | apply InBlock.hit
        | (apply InBlock.miss; exact rfl)
        | apply W.seq
        | apply W.region
        | apply W.block
        | apply W.skip
        | apply W.ret
        | apply W.exit
        | ((first | apply U_ | (apply Ug_; exact rfl; exact rfl) | (apply Ugq_; exact rfl; exact rfl)); (first
    | exact QX.Move TYok
    | exact QX.Asg TYok
    | exact QX.Ld TYok
    | exact QX.Bin TYok
    | exact QX.Pick TYok
    | exact QX.Un TYok
    | exact QX.Len TYok
    | exact QX.Idx TYok
    | exact QX.Build TYok
    | (apply Q_calld (h1); exact EvD.auto)
    | (apply Q_calld (h2); exact EvD.auto)
    | (apply Q_calld (h3); exact EvD.auto)); exact rfl)
        | refine SX.Box TYok (h := ?_)
        | (apply RG.gT; exact rfl; exact rfl; (first | assumption | decide))
        | (apply RG.gF; exact rfl; exact rfl; (first | assumption | decide | (rw [ne_eq, Bool.not_eq_true]; assumption) | (rw [ne_eq, Bool.not_eq_false]; assumption)); exact rfl)
        | (refine W.condA (ht := fun hb => ?_) (hf := fun hb => ?_) <;> (try simp at hb) <;> (try (exfalso; omega))))
      apply W.loopP (σ := Nat) 58 [1, 2, 3, 35, 36] (fun k => k ≤ ts.length) (fun k => [(37, vI k)]) (fun _ => [(3, ⟨24, 5, [encX e]⟩)]) (fun k => ts.length - k) (0)
      case hp => repeat (first | exact Pick.nil | apply Pick.cons rfl)
      case h0 =>
        refine ⟨by simp, ?_⟩
        exact Le.auto
      case round =>
        rintro k hk1
        apply W.norm (by repeat (first | exact App.nil | apply App.cons))
        by_cases hk : k < ts.length
        · have q := List.all_eq_true.1 g6 _ (nth_mem hk)
          rw [tokF, Bool.and_eq_true, decide_eq_true_iff, Bool.not_eq_true'] at q
          have q2 : ((nth ts ((k : Nat) : Int).toNat).length : Int) = days := q.1
          have q3 := containsI_ok (nth ts k) 25 [] oddF (by omega) (fun n _ => odd_ok n)
          rw [q.2] at q3
          repeat' (first
            | apply RG.nil
            | apply Lex.nil
            | apply Then.n
            | apply Then.r
            | apply Then.x
            | apply InBlock.n
            | apply InBlock.r
            | apply InBlock.hit
            | (apply InBlock.miss; exact rfl)
            | apply W.seq
            | apply W.region
            | apply W.block
            | apply W.skip
            | apply W.ret
            | apply W.exit
            | ((first | apply U_ | (apply Ug_; exact rfl; exact rfl) | (apply Ugq_; exact rfl; exact rfl)); (first
    | exact QX.Move TYok
    | exact QX.Asg TYok
    | exact QX.Ld TYok
    | exact QX.Bin TYok
    | exact QX.Pick TYok
    | exact QX.Un TYok
    | exact QX.Len TYok
    | exact QX.Idx TYok
    | exact QX.Build TYok
    | (apply Q_calld (q3); exact EvD.auto)); exact rfl)
            | refine SX.Box TYok (h := ?_)
            | (apply RG.gT; exact rfl; exact rfl; (first | assumption | decide))
            | (apply RG.gF; exact rfl; exact rfl; (first | assumption | decide | (rw [ne_eq, Bool.not_eq_true]; assumption) | (rw [ne_eq, Bool.not_eq_false]; assumption)); exact rfl)
            | (refine W.condA (ht := fun hb => ?_) (hf := fun hb => ?_) <;> (try simp at hb) <;> (try (exfalso; omega))))
          refine ⟨k + 1, by omega, ?_, ?_⟩
          · exact Le.auto
          · (try simp only); omega
        · obtain rfl : k = ts.length := by omega
          repeat' (first
            | apply RG.nil
            | apply Lex.nil
            | apply Then.n
            | apply Then.r
            | apply Then.x
            | apply InBlock.n
            | apply InBlock.r
            | apply InBlock.hit
            | (apply InBlock.miss; exact rfl)
            | apply W.seq
            | apply W.region
            | apply W.block
            | apply W.skip
            | apply W.ret
            | apply W.exit
            | ((first | apply U_ | (apply Ug_; exact rfl; exact rfl) | (apply Ugq_; exact rfl; exact rfl)); (first
    | exact QX.Move TYok
    | exact QX.Asg TYok
    | exact QX.Ld TYok
    | exact QX.Bin TYok
    | exact QX.Pick TYok
    | exact QX.Un TYok
    | exact QX.Len TYok
    | exact QX.Idx TYok
    | exact QX.Build TYok); exact rfl)
            | refine SX.Box TYok (h := ?_)
            | (apply S_callb (h4); exact Ev.auto; exact rfl; exact rfl; exact EvD.auto)
            | (apply RG.gT; exact rfl; exact rfl; (first | assumption | decide))
            | (apply RG.gF; exact rfl; exact rfl; (first | assumption | decide | (rw [ne_eq, Bool.not_eq_true]; assumption) | (rw [ne_eq, Bool.not_eq_false]; assumption)); exact rfl)
            | (refine W.condA (ht := fun hb => ?_) (hf := fun hb => ?_) <;> (try simp at hb) <;> (try (exfalso; omega))))
          exact Fin.ret ResL.auto
    · rw [runF, if_neg hg]
      refine ACalls.of_W (qs := [slI [], cI 1]) [6, 7] 58 Try.func10 (by kernel_rfl) rfl rfl rfl fun G => ?_
      refine W.initA (hw := ?_)
      repeat' (first
        | apply RG.nil
        | apply Lex.nil
        | apply Then.n
        | apply Then.r
        | apply Then.x
        | apply InBlock.n
        | apply InBlock.r
        | apply InBlock.hit
        | (apply InBlock.miss; exact rfl)
        | apply W.seq
        | apply W.region
        | apply W.block
        | apply W.skip
        | apply W.ret
        | apply W.exit
        | ((first | apply U_ | (apply Ug_; exact rfl; exact rfl) | (apply Ugq_; exact rfl; exact rfl)); (first
    | exact QX.Move TYok
    | exact QX.Asg TYok
    | exact QX.Ld TYok
    | exact QX.Bin TYok
    | exact QX.Pick TYok
    | exact QX.Un TYok
    | exact QX.Len TYok
    | exact QX.Idx TYok
    | exact QX.Build TYok
    | (apply Q_calld (h1); exact EvD.auto)
    | (apply Q_calld (h2); exact EvD.auto)
    | (apply Q_calld (h3); exact EvD.auto)); exact rfl)
        | refine SX.Box TYok (h := ?_)
        | (apply RG.gT; exact rfl; exact rfl; (first | assumption | decide))
        | (apply RG.gF; exact rfl; exact rfl; (first | assumption | decide | (rw [ne_eq, Bool.not_eq_true]; assumption) | (rw [ne_eq, Bool.not_eq_false]; assumption)); exact rfl)
        | (refine W.condA (ht := fun hb => ?_) (hf := fun hb => ?_) <;> (try simp at hb) <;> (try (exfalso; omega))))
      · exact Fin.ret ResL.auto
      · exact Fin.ret ResL.auto
      apply W.loopP (σ := Nat) 58 [1, 2, 3, 35, 36] (fun k => k ≤ ts.length ∧ (ts.take k).all (tokF days) = true) (fun k => [(37, vI k)]) (fun _ => [(3, ⟨24, 5, [encX e]⟩)]) (fun k => ts.length - k) (0)
      case hp => repeat (first | exact Pick.nil | apply Pick.cons rfl)
      case h0 =>
        refine ⟨by simp, ?_⟩
        exact Le.auto
      case round =>
        rintro k ⟨hk1, hk2⟩
        apply W.norm (by repeat (first | exact App.nil | apply App.cons))
        by_cases hk : k < ts.length
        · have q3 := containsI_ok (nth ts k) 25 [] oddF (hts _ (nth_mem hk)) (fun n _ => odd_ok n)
          repeat' (first
            | apply RG.nil
            | apply Lex.nil
            | apply Then.n
            | apply Then.r
            | apply Then.x
            | apply InBlock.n
            | apply InBlock.r
            | apply InBlock.hit
            | (apply InBlock.miss; exact rfl)
            | apply W.seq
            | apply W.region
            | apply W.block
            | apply W.skip
            | apply W.ret
            | apply W.exit
            | ((first | apply U_ | (apply Ug_; exact rfl; exact rfl) | (apply Ugq_; exact rfl; exact rfl)); (first
    | exact QX.Move TYok
    | exact QX.Asg TYok
    | exact QX.Ld TYok
    | exact QX.Bin TYok
    | exact QX.Pick TYok
    | exact QX.Un TYok
    | exact QX.Len TYok
    | exact QX.Idx TYok
    | exact QX.Build TYok
    | (apply Q_calld (q3); exact EvD.auto)); exact rfl)
            | refine SX.Box TYok (h := ?_)
            | (apply RG.gT; exact rfl; exact rfl; (first | assumption | decide))
            | (apply RG.gF; exact rfl; exact rfl; (first | assumption | decide | (rw [ne_eq, Bool.not_eq_true]; assumption) | (rw [ne_eq, Bool.not_eq_false]; assumption)); exact rfl)
            | (refine W.condA (ht := fun hb => ?_) (hf := fun hb => ?_) <;> (try simp at hb) <;> (try (exfalso; omega))))
          · exact Fin.ret ResL.auto
          · refine ⟨k + 1, ⟨by omega, ?_⟩, ?_, ?_⟩
            · rw [take_nth hk, List.all_append, hk2]
              simp [tokF]
              exact hb
            · exact Le.auto
            · (try simp only); omega
        · obtain rfl : k = ts.length := by omega
          rw [List.take_length] at hk2
          exfalso
          apply hg
          simp only [fitF, hr, hk2, Bool.and_eq_true, decide_eq_true_iff, Bool.not_eq_true']
          simp_all
          omega
end Go.Proofs.Ytacilhkipekjlaa
