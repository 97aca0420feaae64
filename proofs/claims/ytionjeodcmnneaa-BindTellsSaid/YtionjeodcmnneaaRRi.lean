/-
  Right indentures: the reference
-/
import Derived.Test.YtionjeodcmnneaaRi
set_option linter.unusedVariables false
set_option linter.unusedSimpArgs false
set_option maxHeartbeats 8000000
namespace Go.Proofs.Ytionjeodcmnneaa
open Lf Go
attribute [local irreducible] PureOp EffOp Ev RG W Then InBlock Lf.Fin nth App InitE Pick SubE SubF SubG EvL EvD EvP EvR ResL Lf.Lex SubR SubBR RA RAll EvC FinO FinM ResM FinB ResD

theorem any_no {α : Type} [Inhabited α] {l : List α} {p : α → Bool} (h : ∀ j, j < l.length → p (nth l j) = false) : l.any p = false := by
  refine List.any_eq_false.2 fun y hy => ?_
  obtain ⟨j, hj, rfl⟩ := List.getElem_of_mem hy
  have := h j hj
  rw [nth_eq hj] at this
  rw [this]; decide
theorem any_yes {α : Type} [Inhabited α] {l : List α} {p : α → Bool} {j : Nat} (hj : j < l.length) (h : p (nth l j) = true) : l.any p = true := List.any_eq_true.2 ⟨_, nth_mem hj, h⟩
theorem upto_fals {q : Nat → Bool} {k : Nat} (h : ∀ j, j < k → q j = false) (hk : q k = false) : ∀ j, j < k + 1 → q j = false := by
  intro j hj
  by_cases e : j = k
  · subst e; exact hk
  · exact h j (by omega)
theorem hd_iff (x : Ind) : hdR x = true ↔ nameF x.name = true ∧ nameF x.issuer = true ∧ inF 1 1000000000000000 x.face = true ∧ inF 0 200000 x.start = true ∧ inF 0 200000 x.due = true ∧ x.start < x.due ∧ inF 1 120 x.every = true ∧ inF 0 2 x.count = true ∧ inF 0 3 x.adjust = true ∧ inF 0 100 x.record = true ∧ inF 0 9 x.rank = true ∧ inF 0 10000 x.cap = true ∧ inF (-1) 1000000000000000 x.cross = true ∧ inF 0 1000 x.notice = true ∧ inF 0 1000 x.sink = true ∧ inF 1 1000 x.majority = true ∧ inF 1 1000 x.fast = true ∧ uniqF x.favour 20 = true ∧ (x.calls.length : Int) ≤ 20 := by
  simp only [hdR, datesF, oneR, twoR, List.all_cons, List.all_nil, Bool.and_true, Bool.and_eq_true, decide_eq_true_iff, and_assoc]
  constructor
  · rintro ⟨a1, a2, a3, b1, b2, b3, b4, b5, b6, c1, c2, c3, c4, c5, c6, d1, d2, d3, d4⟩
    exact ⟨d1, d2, b1, a1, a2, a3, b2, b3, b4, b5, b6, c1, c2, c3, c4, c5, c6, d4, d3⟩
  · rintro ⟨d1, d2, b1, a1, a2, a3, b2, b3, b4, b5, b6, c1, c2, c3, c4, c5, c6, d4, d3⟩
    exact ⟨a1, a2, a3, b1, b2, b3, b4, b5, b6, c1, c2, c3, c4, c5, c6, d1, d2, d3, d4⟩
set_option maxRecDepth 20000 in
theorem rrightI_ok (x : Ind) (hx : OkN x) (hsm : x.lets.length ≤ 1000 ∧ x.covs.length ≤ 1000) : ACalls Try.prog 25 [aN x] (.pv (cB (rightN x))) := by
  have g1 := rname_ok x.name hx.name
  have g2 := rname_ok x.issuer hx.issuer
  have g3 := names_ok x.favour 20 (by omega) hx.favour hx.favn
  have g4 := names_ok (x.lets.map Let.name) 20 (by omega) (by rw [List.length_map]; exact hx.lets) (fun s hs => by obtain ⟨y, hy, rfl⟩ := List.mem_map.1 hs; exact hx.letn y hy)
  have g5 := names_ok (x.covs.map Cov.name) 20 (by omega) (by rw [List.length_map]; exact hx.covs) (fun s hs => by obtain ⟨y, hy, rfl⟩ := List.mem_map.1 hs; exact hx.covn y hy)
  have g6 := rrightExp_ok x.coupon hx.coupon
  have z1 := hx.lets
  have z2 := hx.covs
  have z3 := hx.calls
  have hm1 : ∀ k, k < x.lets.length → (x.lets.take (k + 1)).map Let.name = (x.lets.take k).map Let.name ++ [(nth x.lets k).name] := fun k hk => by rw [take_nth hk]; simp
  have hm2 : ∀ k, k < x.covs.length → (x.covs.take (k + 1)).map Cov.name = (x.covs.take k).map Cov.name ++ [(nth x.covs k).name] := fun k hk => by rw [take_nth hk]; simp
  by_cases hh : hdR x = true ∧ rightF 12 x.coupon = true
  case neg =>
    have e0 : rightN x = false := by
      cases hq : rightN x with
      | false => rfl
      | true =>
        simp only [rightN, midR, Bool.and_eq_true] at hq
        exact absurd ⟨hq.1.1, hq.1.2.2⟩ hh
    rw [e0]
    refine ACalls.of_W (qs := [cB false]) [2] 207 Try.func25 (by kernel_rfl) rfl rfl rfl fun G => ?_
    refine W.initA (hw := ?_)
    repeat' (first
      | apply RG.nil
      | apply Lex.nil
      | apply Then.n
      | apply Then.r
      | apply Then.x
      | apply InBlock.n
      | apply InBlock.r
      | apply InBlock.hit
      | (apply InBlock.miss; exact rfl)
      | apply W.seq
      | apply W.region
      | apply W.block
      | apply W.skip
      | apply W.ret
      | apply W.exit
      | ((first | apply U_ | (apply Ug_; exact rfl; exact rfl) | (apply Ugq_; exact rfl; exact rfl)); (first
    | exact QX.Move TYok
    | exact QX.Asg TYok
    | exact QX.Fld TYok
    | exact QX.Ld TYok
    | exact QX.Bin TYok
    | exact QX.Pick TYok
    | exact QX.Un TYok
    | exact QX.Len TYok
    | exact QX.Idx TYok
    | (apply Q_call (g1); exact EvL.auto; exact rfl)
    | (apply Q_call (g2); exact EvL.auto; exact rfl)
    | (apply Q_call (g3); exact EvL.auto; exact rfl)
    | (apply Q_calld (g6); exact EvD.auto)
    | (apply Q_call (within_ok x.face 1 1000000000000000); exact EvL.auto; exact rfl)
    | (apply Q_call (within_ok x.start 0 200000); exact EvL.auto; exact rfl)
    | (apply Q_call (within_ok x.due 0 200000); exact EvL.auto; exact rfl)
    | (apply Q_call (within_ok x.every 1 120); exact EvL.auto; exact rfl)
    | (apply Q_call (within_ok x.count 0 2); exact EvL.auto; exact rfl)
    | (apply Q_call (within_ok x.adjust 0 3); exact EvL.auto; exact rfl)
    | (apply Q_call (within_ok x.record 0 100); exact EvL.auto; exact rfl)
    | (apply Q_call (within_ok x.rank 0 9); exact EvL.auto; exact rfl)
    | (apply Q_call (within_ok x.cap 0 10000); exact EvL.auto; exact rfl)
    | (apply Q_call (within_ok x.cross (-1) 1000000000000000); exact EvL.auto; exact rfl)
    | (apply Q_call (within_ok x.notice 0 1000); exact EvL.auto; exact rfl)
    | (apply Q_call (within_ok x.sink 0 1000); exact EvL.auto; exact rfl)
    | (apply Q_call (within_ok x.majority 1 1000); exact EvL.auto; exact rfl)
    | (apply Q_call (within_ok x.fast 1 1000); exact EvL.auto; exact rfl)); exact rfl)
      | refine SX.Lit TYok (h := ?_)
      | refine SX.App TYok (h := ?_)
      | refine SX.Box TYok (h := ?_)
      | (apply RG.gT; exact rfl; exact rfl; (first | assumption | decide))
      | (apply RG.gF; exact rfl; exact rfl; (first | assumption | decide | (rw [ne_eq, Bool.not_eq_true]; assumption) | (rw [ne_eq, Bool.not_eq_false]; assumption)); exact rfl)
      | (refine W.condA (ht := fun hb => ?_) (hf := fun hb => ?_) <;> (try simp at hb) <;> (try (exfalso; omega))))
    · exact Fin.ret ResL.auto
    all_goals
      exfalso
      apply hh
      rw [hd_iff]
      simp_all
      done
  obtain ⟨h1, h2⟩ := hh
  have h1' := h1
  rw [hd_iff] at h1'
  obtain ⟨d1, d2, b1, a1, a2, a3, b2, b3, b4, b5, b6, c1, c2, c3, c4, c5, c6, d4, d3⟩ := h1'
  have e1 : rightN x = (uniqF (x.lets.map Let.name) 20 && uniqF (x.covs.map Cov.name) 20 && (!(x.lets.any badL || x.covs.any badV) && !(x.calls.any badC))) := by
    rw [rightN, midR, h1, h2, Bool.true_and, Bool.and_true]
  refine ACalls.of_W (qs := [cB (rightN x)]) [2] 207 Try.func25 (by kernel_rfl) rfl rfl rfl fun G => ?_
  refine W.initA (hw := ?_)
  repeat' (first
    | apply RG.nil
    | apply Lex.nil
    | apply Then.n
    | apply Then.r
    | apply Then.x
    | apply InBlock.n
    | apply InBlock.r
    | apply InBlock.hit
    | (apply InBlock.miss; exact rfl)
    | apply W.seq
    | apply W.region
    | apply W.block
    | apply W.skip
    | apply W.ret
    | apply W.exit
    | ((first | apply U_ | (apply Ug_; exact rfl; exact rfl) | (apply Ugq_; exact rfl; exact rfl)); (first
    | exact QX.Move TYok
    | exact QX.Asg TYok
    | exact QX.Fld TYok
    | exact QX.Ld TYok
    | exact QX.Bin TYok
    | exact QX.Pick TYok
    | exact QX.Un TYok
    | exact QX.Len TYok
    | exact QX.Idx TYok
    | (apply Q_call (g1); exact EvL.auto; exact rfl)
    | (apply Q_call (g2); exact EvL.auto; exact rfl)
    | (apply Q_call (g3); exact EvL.auto; exact rfl)
    | (apply Q_calld (g6); exact EvD.auto)
    | (apply Q_call (within_ok x.face 1 1000000000000000); exact EvL.auto; exact rfl)
    | (apply Q_call (within_ok x.start 0 200000); exact EvL.auto; exact rfl)
    | (apply Q_call (within_ok x.due 0 200000); exact EvL.auto; exact rfl)
    | (apply Q_call (within_ok x.every 1 120); exact EvL.auto; exact rfl)
    | (apply Q_call (within_ok x.count 0 2); exact EvL.auto; exact rfl)
    | (apply Q_call (within_ok x.adjust 0 3); exact EvL.auto; exact rfl)
    | (apply Q_call (within_ok x.record 0 100); exact EvL.auto; exact rfl)
    | (apply Q_call (within_ok x.rank 0 9); exact EvL.auto; exact rfl)
    | (apply Q_call (within_ok x.cap 0 10000); exact EvL.auto; exact rfl)
    | (apply Q_call (within_ok x.cross (-1) 1000000000000000); exact EvL.auto; exact rfl)
    | (apply Q_call (within_ok x.notice 0 1000); exact EvL.auto; exact rfl)
    | (apply Q_call (within_ok x.sink 0 1000); exact EvL.auto; exact rfl)
    | (apply Q_call (within_ok x.majority 1 1000); exact EvL.auto; exact rfl)
    | (apply Q_call (within_ok x.fast 1 1000); exact EvL.auto; exact rfl)); exact rfl)
    | refine SX.Lit TYok (h := ?_)
    | refine SX.App TYok (h := ?_)
    | refine SX.Box TYok (h := ?_)
    | (apply RG.gT; exact rfl; exact rfl; (first | assumption | decide))
    | (apply RG.gF; exact rfl; exact rfl; (first | assumption | decide | (rw [ne_eq, Bool.not_eq_true]; assumption) | (rw [ne_eq, Bool.not_eq_false]; assumption)); exact rfl)
    | (refine W.condA (ht := fun hb => ?_) (hf := fun hb => ?_) <;> (try simp at hb) <;> (try (exfalso; omega))))
  · exfalso
    simp_all
    omega
  refine W.weaken (Le.nilOwn (t := 6) (n := 133) (E := 9) (sz := 1) rfl) ?_
  apply W.loopP (σ := Nat) 207 [1] (fun k => k ≤ x.lets.length ∧ (∀ j, j < k → badL (nth x.lets j) = false)) (fun k => [(6, (True, .slc 133)), (7, vI k)]) (fun k => [(1, ⟨40, 25, [encN x]⟩), (133, ⟨9, 1, ((x.lets.take k).map Let.name).map encS⟩)]) (fun k => x.lets.length - k) (0)
  case hp => repeat (first | exact Pick.nil | apply Pick.cons rfl)
  case h0 =>
    refine ⟨⟨by simp, fun j hj => absurd hj (by omega)⟩, ?_⟩
    exact Le.auto
  case round =>
    rintro k ⟨k1, k2⟩
    apply W.norm (by repeat (first | exact App.nil | apply App.cons))
    by_cases hk : k < x.lets.length
    · have hl : ((x.lets.take k).map Let.name).length ≤ 1000 := by simp; omega
      have ht := hm1 k hk
      generalize hgl : (x.lets.take k).map Let.name = nl at hl ht
      have q := rrightExp_ok (nth x.lets k).body (hx.lete _ (nth_mem hk))
      cases hc : rightF 12 (nth x.lets k).body with
      | false =>
        rw [hc] at q
        have e0 : rightN x = false := by rw [e1, any_yes hk (by rw [badL, hc]; rfl)]; simp
        rw [e0]
        repeat' (first
          | apply RG.nil
          | apply Lex.nil
          | apply Then.n
          | apply Then.r
          | apply Then.x
          | apply InBlock.n
          | apply InBlock.r
          | apply InBlock.hit
          | (apply InBlock.miss; exact rfl)
          | apply W.seq
          | apply W.region
          | apply W.block
          | apply W.skip
          | apply W.ret
          | apply W.exit
          | ((first | apply U_ | (apply Ug_; exact rfl; exact rfl) | (apply Ugq_; exact rfl; exact rfl)); (first
    | exact QX.Move TYok
    | exact QX.Asg TYok
    | exact QX.Fld TYok
    | exact QX.Ld TYok
    | exact QX.Bin TYok
    | exact QX.Pick TYok
    | exact QX.Un TYok
    | exact QX.Len TYok
    | exact QX.Idx TYok
    | (apply Q_calld (q); exact EvD.auto)); exact rfl)
          | refine SX.Lit TYok (h := ?_)
          | refine SX.App TYok (h := ?_)
          | refine SX.Box TYok (h := ?_)
          | (apply RG.gT; exact rfl; exact rfl; (first | assumption | decide))
          | (apply RG.gF; exact rfl; exact rfl; (first | assumption | decide | (rw [ne_eq, Bool.not_eq_true]; assumption) | (rw [ne_eq, Bool.not_eq_false]; assumption)); exact rfl)
          | (refine W.condA (ht := fun hb => ?_) (hf := fun hb => ?_) <;> (try simp at hb) <;> (try (exfalso; omega))))
        exact Fin.ret ResL.auto
      | true =>
        rw [hc] at q
        repeat' (first
          | apply RG.nil
          | apply Lex.nil
          | apply Then.n
          | apply Then.r
          | apply Then.x
          | apply InBlock.n
          | apply InBlock.r
          | apply InBlock.hit
          | (apply InBlock.miss; exact rfl)
          | apply W.seq
          | apply W.region
          | apply W.block
          | apply W.skip
          | apply W.ret
          | apply W.exit
          | ((first | apply U_ | (apply Ug_; exact rfl; exact rfl) | (apply Ugq_; exact rfl; exact rfl)); (first
    | exact QX.Move TYok
    | exact QX.Asg TYok
    | exact QX.Fld TYok
    | exact QX.Ld TYok
    | exact QX.Bin TYok
    | exact QX.Pick TYok
    | exact QX.Un TYok
    | exact QX.Len TYok
    | exact QX.Idx TYok
    | (apply Q_calld (q); exact EvD.auto)); exact rfl)
          | refine SX.Lit TYok (h := ?_)
          | refine SX.App TYok (h := ?_)
          | refine SX.Box TYok (h := ?_)
          | (apply RG.gT; exact rfl; exact rfl; (first | assumption | decide))
          | (apply RG.gF; exact rfl; exact rfl; (first | assumption | decide | (rw [ne_eq, Bool.not_eq_true]; assumption) | (rw [ne_eq, Bool.not_eq_false]; assumption)); exact rfl)
          | (refine W.condA (ht := fun hb => ?_) (hf := fun hb => ?_) <;> (try simp at hb) <;> (try (exfalso; omega))))
        refine ⟨k + 1, ⟨by omega, upto_fals (q := fun j => badL (nth x.lets j)) k2 (by rw [badL, hc]; rfl)⟩, ?_, ?_⟩
        · simp only [ht, List.map_append, List.map_cons, List.map_nil]
          exact Le.auto
        · (try simp only); omega
    · obtain rfl : k = x.lets.length := by omega
      have l1 := any_no k2
      simp only [List.take_length]
      repeat' (first
        | apply RG.nil
        | apply Lex.nil
        | apply Then.n
        | apply Then.r
        | apply Then.x
        | apply InBlock.n
        | apply InBlock.r
        | apply InBlock.hit
        | (apply InBlock.miss; exact rfl)
        | apply W.seq
        | apply W.region
        | apply W.block
        | apply W.skip
        | apply W.ret
        | apply W.exit
        | ((first | apply U_ | (apply Ug_; exact rfl; exact rfl) | (apply Ugq_; exact rfl; exact rfl)); (first
    | exact QX.Move TYok
    | exact QX.Asg TYok
    | exact QX.Fld TYok
    | exact QX.Ld TYok
    | exact QX.Bin TYok
    | exact QX.Pick TYok
    | exact QX.Un TYok
    | exact QX.Len TYok
    | exact QX.Idx TYok); exact rfl)
        | refine SX.Lit TYok (h := ?_)
        | refine SX.App TYok (h := ?_)
        | refine SX.Box TYok (h := ?_)
        | (apply RG.gT; exact rfl; exact rfl; (first | assumption | decide))
        | (apply RG.gF; exact rfl; exact rfl; (first | assumption | decide | (rw [ne_eq, Bool.not_eq_true]; assumption) | (rw [ne_eq, Bool.not_eq_false]; assumption)); exact rfl)
        | (refine W.condA (ht := fun hb => ?_) (hf := fun hb => ?_) <;> (try simp at hb) <;> (try (exfalso; omega))))
      refine W.weaken (Le.nilOwn (t := 8) (n := 157) (E := 9) (sz := 1) rfl) ?_
      apply W.loopP (σ := Nat) 207 [1] (fun k => k ≤ x.covs.length ∧ (∀ j, j < k → badV (nth x.covs j) = false)) (fun k => [(6, (True, .slc 133)), (8, (True, .slc 157)), (9, vI k)]) (fun k => [(1, ⟨40, 25, [encN x]⟩), (133, ⟨9, 1, (x.lets.map Let.name).map encS⟩), (157, ⟨9, 1, ((x.covs.take k).map Cov.name).map encS⟩)]) (fun k => x.covs.length - k) (0)
      case hp => repeat (first | exact Pick.nil | apply Pick.cons rfl)
      case h0 =>
        refine ⟨⟨by simp, fun j hj => absurd hj (by omega)⟩, ?_⟩
        exact Le.auto
      case round =>
        rintro k ⟨k1, k2⟩
        apply W.norm (by repeat (first | exact App.nil | apply App.cons))
        by_cases hk : k < x.covs.length
        · have hl : ((x.covs.take k).map Cov.name).length ≤ 1000 := by simp; omega
          have ht := hm2 k hk
          generalize hgl : (x.covs.take k).map Cov.name = nl at hl ht
          have q := rrightExp_ok (nth x.covs k).must (hx.cove _ (nth_mem hk))
          have q2 := within_ok (nth x.covs k).grace 0 1000
          have eb : badV (nth x.covs k) = (!rightF 12 (nth x.covs k).must || !inF 0 1000 (nth x.covs k).grace) := by simp [badV]
          cases hc : badV (nth x.covs k) with
          | true =>
            have e0 : rightN x = false := by rw [e1, any_yes hk hc]; simp
            rw [e0]
            repeat' (first
              | apply RG.nil
              | apply Lex.nil
              | apply Then.n
              | apply Then.r
              | apply Then.x
              | apply InBlock.n
              | apply InBlock.r
              | apply InBlock.hit
              | (apply InBlock.miss; exact rfl)
              | apply W.seq
              | apply W.region
              | apply W.block
              | apply W.skip
              | apply W.ret
              | apply W.exit
              | ((first | apply U_ | (apply Ug_; exact rfl; exact rfl) | (apply Ugq_; exact rfl; exact rfl)); (first
    | exact QX.Move TYok
    | exact QX.Asg TYok
    | exact QX.Fld TYok
    | exact QX.Ld TYok
    | exact QX.Bin TYok
    | exact QX.Pick TYok
    | exact QX.Un TYok
    | exact QX.Len TYok
    | exact QX.Idx TYok
    | (apply Q_calld (q); exact EvD.auto)
    | (apply Q_call (q2); exact EvL.auto; exact rfl)); exact rfl)
              | refine SX.Lit TYok (h := ?_)
              | refine SX.App TYok (h := ?_)
              | refine SX.Box TYok (h := ?_)
              | (apply RG.gT; exact rfl; exact rfl; (first | assumption | decide))
              | (apply RG.gF; exact rfl; exact rfl; (first | assumption | decide | (rw [ne_eq, Bool.not_eq_true]; assumption) | (rw [ne_eq, Bool.not_eq_false]; assumption)); exact rfl)
              | (refine W.condA (ht := fun hb => ?_) (hf := fun hb => ?_) <;> (try simp at hb) <;> (try (exfalso; omega))))
            · exact Fin.ret ResL.auto
            all_goals (exfalso; rw [hc, hb.1, hb.2] at eb; cases eb)
          | false =>
            rw [hc] at eb
            have eb := eb.symm
            simp only [Bool.or_eq_false_iff, Bool.not_eq_false'] at eb
            rw [eb.1] at q
            rw [eb.2] at q2
            repeat' (first
              | apply RG.nil
              | apply Lex.nil
              | apply Then.n
              | apply Then.r
              | apply Then.x
              | apply InBlock.n
              | apply InBlock.r
              | apply InBlock.hit
              | (apply InBlock.miss; exact rfl)
              | apply W.seq
              | apply W.region
              | apply W.block
              | apply W.skip
              | apply W.ret
              | apply W.exit
              | ((first | apply U_ | (apply Ug_; exact rfl; exact rfl) | (apply Ugq_; exact rfl; exact rfl)); (first
    | exact QX.Move TYok
    | exact QX.Asg TYok
    | exact QX.Fld TYok
    | exact QX.Ld TYok
    | exact QX.Bin TYok
    | exact QX.Pick TYok
    | exact QX.Un TYok
    | exact QX.Len TYok
    | exact QX.Idx TYok
    | (apply Q_calld (q); exact EvD.auto)
    | (apply Q_call (q2); exact EvL.auto; exact rfl)); exact rfl)
              | refine SX.Lit TYok (h := ?_)
              | refine SX.App TYok (h := ?_)
              | refine SX.Box TYok (h := ?_)
              | (apply RG.gT; exact rfl; exact rfl; (first | assumption | decide))
              | (apply RG.gF; exact rfl; exact rfl; (first | assumption | decide | (rw [ne_eq, Bool.not_eq_true]; assumption) | (rw [ne_eq, Bool.not_eq_false]; assumption)); exact rfl)
              | (refine W.condA (ht := fun hb => ?_) (hf := fun hb => ?_) <;> (try simp at hb) <;> (try (exfalso; omega))))
            refine ⟨k + 1, ⟨by omega, upto_fals (q := fun j => badV (nth x.covs j)) k2 hc⟩, ?_, ?_⟩
            · simp only [ht, List.map_append, List.map_cons, List.map_nil]
              exact Le.auto
            · (try simp only); omega
        · obtain rfl : k = x.covs.length := by omega
          have l2 := any_no k2
          simp only [List.take_length]
          repeat' (first
            | apply RG.nil
            | apply Lex.nil
            | apply Then.n
            | apply Then.r
            | apply Then.x
            | apply InBlock.n
            | apply InBlock.r
            | apply InBlock.hit
            | (apply InBlock.miss; exact rfl)
            | apply W.seq
            | apply W.region
            | apply W.block
            | apply W.skip
            | apply W.ret
            | apply W.exit
            | ((first | apply U_ | (apply Ug_; exact rfl; exact rfl) | (apply Ugq_; exact rfl; exact rfl)); (first
    | exact QX.Move TYok
    | exact QX.Asg TYok
    | exact QX.Fld TYok
    | exact QX.Ld TYok
    | exact QX.Bin TYok
    | exact QX.Pick TYok
    | exact QX.Un TYok
    | exact QX.Len TYok
    | exact QX.Idx TYok); exact rfl)
            | refine SX.Lit TYok (h := ?_)
            | refine SX.App TYok (h := ?_)
            | refine SX.Box TYok (h := ?_)
            | (apply RG.gT; exact rfl; exact rfl; (first | assumption | decide))
            | (apply RG.gF; exact rfl; exact rfl; (first | assumption | decide | (rw [ne_eq, Bool.not_eq_true]; assumption) | (rw [ne_eq, Bool.not_eq_false]; assumption)); exact rfl)
            | (refine W.condA (ht := fun hb => ?_) (hf := fun hb => ?_) <;> (try simp at hb) <;> (try (exfalso; omega))))
          apply W.loopP (σ := Nat) 207 [1] (fun k => k ≤ x.calls.length ∧ (∀ j, j < k → badC (nth x.calls j) = false)) (fun k => [(6, (True, .slc 133)), (8, (True, .slc 157)), (10, vI k)]) (fun k => [(1, ⟨40, 25, [encN x]⟩), (133, ⟨9, 1, (x.lets.map Let.name).map encS⟩), (157, ⟨9, 1, (x.covs.map Cov.name).map encS⟩)]) (fun k => x.calls.length - k) (0)
          case hp => repeat (first | exact Pick.nil | apply Pick.cons rfl)
          case h0 =>
            refine ⟨⟨by simp, fun j hj => absurd hj (by omega)⟩, ?_⟩
            exact Le.auto
          case round =>
            rintro k ⟨k1, k2⟩
            apply W.norm (by repeat (first | exact App.nil | apply App.cons))
            by_cases hk : k < x.calls.length
            · have q := within_ok (nth x.calls k).day 0 200000
              have q2 := within_ok (nth x.calls k).price 0 10000
              have eb : badC (nth x.calls k) = (!inF 0 200000 (nth x.calls k).day || !inF 0 10000 (nth x.calls k).price) := by simp [badC]
              cases hc : badC (nth x.calls k) with
              | true =>
                have e0 : rightN x = false := by rw [e1, any_yes hk hc]; simp
                rw [e0]
                repeat' (first
                  | apply RG.nil
                  | apply Lex.nil
                  | apply Then.n
                  | apply Then.r
                  | apply Then.x
                  | apply InBlock.n
                  | apply InBlock.r
                  | apply InBlock.hit
                  | (apply InBlock.miss; exact rfl)
                  | apply W.seq
                  | apply W.region
                  | apply W.block
                  | apply W.skip
                  | apply W.ret
                  | apply W.exit
                  | ((first | apply U_ | (apply Ug_; exact rfl; exact rfl) | (apply Ugq_; exact rfl; exact rfl)); (first
    | exact QX.Move TYok
    | exact QX.Asg TYok
    | exact QX.Fld TYok
    | exact QX.Ld TYok
    | exact QX.Bin TYok
    | exact QX.Pick TYok
    | exact QX.Un TYok
    | exact QX.Len TYok
    | exact QX.Idx TYok
    | (apply Q_call (q); exact EvL.auto; exact rfl)
    | (apply Q_call (q2); exact EvL.auto; exact rfl)); exact rfl)
                  | refine SX.Lit TYok (h := ?_)
                  | refine SX.App TYok (h := ?_)
                  | refine SX.Box TYok (h := ?_)
                  | (apply RG.gT; exact rfl; exact rfl; (first | assumption | decide))
                  | (apply RG.gF; exact rfl; exact rfl; (first | assumption | decide | (rw [ne_eq, Bool.not_eq_true]; assumption) | (rw [ne_eq, Bool.not_eq_false]; assumption)); exact rfl)
                  | (refine W.condA (ht := fun hb => ?_) (hf := fun hb => ?_) <;> (try simp at hb) <;> (try (exfalso; omega))))
                · exact Fin.ret ResL.auto
                all_goals (exfalso; rw [hc, hb.1, hb.2] at eb; cases eb)
              | false =>
                rw [hc] at eb
                have eb := eb.symm
                simp only [Bool.or_eq_false_iff, Bool.not_eq_false'] at eb
                rw [eb.1] at q
                rw [eb.2] at q2
                repeat' (first
                  | apply RG.nil
                  | apply Lex.nil
                  | apply Then.n
                  | apply Then.r
                  | apply Then.x
                  | apply InBlock.n
                  | apply InBlock.r
                  | apply InBlock.hit
                  | (apply InBlock.miss; exact rfl)
                  | apply W.seq
                  | apply W.region
                  | apply W.block
                  | apply W.skip
                  | apply W.ret
                  | apply W.exit
                  | ((first | apply U_ | (apply Ug_; exact rfl; exact rfl) | (apply Ugq_; exact rfl; exact rfl)); (first
    | exact QX.Move TYok
    | exact QX.Asg TYok
    | exact QX.Fld TYok
    | exact QX.Ld TYok
    | exact QX.Bin TYok
    | exact QX.Pick TYok
    | exact QX.Un TYok
    | exact QX.Len TYok
    | exact QX.Idx TYok
    | (apply Q_call (q); exact EvL.auto; exact rfl)
    | (apply Q_call (q2); exact EvL.auto; exact rfl)); exact rfl)
                  | refine SX.Lit TYok (h := ?_)
                  | refine SX.App TYok (h := ?_)
                  | refine SX.Box TYok (h := ?_)
                  | (apply RG.gT; exact rfl; exact rfl; (first | assumption | decide))
                  | (apply RG.gF; exact rfl; exact rfl; (first | assumption | decide | (rw [ne_eq, Bool.not_eq_true]; assumption) | (rw [ne_eq, Bool.not_eq_false]; assumption)); exact rfl)
                  | (refine W.condA (ht := fun hb => ?_) (hf := fun hb => ?_) <;> (try simp at hb) <;> (try (exfalso; omega))))
                refine ⟨k + 1, ⟨by omega, upto_fals (q := fun j => badC (nth x.calls j)) k2 hc⟩, ?_, ?_⟩
                · exact Le.auto
                · (try simp only); omega
            · obtain rfl : k = x.calls.length := by omega
              have l3 := any_no k2
              have e2 : rightN x = (uniqF (x.lets.map Let.name) 20 && uniqF (x.covs.map Cov.name) 20) := by
                rw [e1, l1, l2, l3]; simp
              rw [e2]
              repeat' (first
                | apply RG.nil
                | apply Lex.nil
                | apply Then.n
                | apply Then.r
                | apply Then.x
                | apply InBlock.n
                | apply InBlock.r
                | apply InBlock.hit
                | (apply InBlock.miss; exact rfl)
                | apply W.seq
                | apply W.region
                | apply W.block
                | apply W.skip
                | apply W.ret
                | apply W.exit
                | ((first | apply U_ | (apply Ug_; exact rfl; exact rfl) | (apply Ugq_; exact rfl; exact rfl)); (first
    | exact QX.Move TYok
    | exact QX.Asg TYok
    | exact QX.Fld TYok
    | exact QX.Ld TYok
    | exact QX.Bin TYok
    | exact QX.Pick TYok
    | exact QX.Un TYok
    | exact QX.Len TYok
    | exact QX.Idx TYok
    | (apply Q_call (g4); exact EvL.auto; exact rfl)
    | (apply Q_call (g5); exact EvL.auto; exact rfl)); exact rfl)
                | refine SX.Lit TYok (h := ?_)
                | refine SX.App TYok (h := ?_)
                | refine SX.Box TYok (h := ?_)
                | (apply RG.gT; exact rfl; exact rfl; (first | assumption | decide))
                | (apply RG.gF; exact rfl; exact rfl; (first | assumption | decide | (rw [ne_eq, Bool.not_eq_true]; assumption) | (rw [ne_eq, Bool.not_eq_false]; assumption)); exact rfl)
                | (refine W.condA (ht := fun hb => ?_) (hf := fun hb => ?_) <;> (try simp at hb) <;> (try (exfalso; omega))))
              exact Fin.ret ResL.auto
end Go.Proofs.Ytionjeodcmnneaa
