/-
  Few terms
-/
import Derived.Test.YtionjeodcmnneaaRSame
set_option linter.unusedVariables false
set_option linter.unusedSimpArgs false
set_option maxHeartbeats 8000000
namespace Go.Proofs.Ytionjeodcmnneaa
open Lf Go
attribute [local irreducible] PureOp EffOp Ev RG W Then InBlock Lf.Fin nth App InitE Pick SubE SubF SubG EvL EvD EvP EvR ResL Lf.Lex SubR SubBR RA RAll EvC FinO FinM ResM FinB ResD

mutual
def nodesF : Exp → Int → Int
  | .mk op n u s l, m => nodesL l m (1 + (s.length : Int) / 40)
def nodesL : List Exp → Int → Int → Int
  | [], m, a => a
  | x :: r, m, a => if a ≤ m then nodesL r m (a + nodesF x (m - a)) else a
end
mutual
theorem nodesF_b : ∀ (e : Exp) (m : Int), OkE e → 1 ≤ nodesF e m ∧ nodesF e m ≤ max m 0 + 300000000000000000
  | .mk op n u s l, m, he => by
    cases he with
    | mk hs hl h =>
    rw [nodesF]
    exact nodesL_b l m _ h (by omega) (by omega)
theorem nodesL_b : ∀ (l : List Exp) (m a : Int), (∀ x ∈ l, OkE x) → 1 ≤ a → a ≤ max m 0 + 300000000000000000 → 1 ≤ nodesL l m a ∧ nodesL l m a ≤ max m 0 + 300000000000000000
  | [], m, a, _, h1, h2 => by rw [nodesL]; exact ⟨h1, h2⟩
  | x :: r, m, a, h, h1, h2 => by
    rw [nodesL]
    split
    · have := nodesF_b x (m - a) (h x (by simp))
      exact nodesL_b r m _ (fun y hy => h y (List.mem_cons_of_mem _ hy)) (by omega) (by omega)
    · exact ⟨h1, h2⟩
end
theorem nodes_ok (e : Exp) : OkE e → ∀ m : Int, 0 ≤ m → m ≤ 20 → ACalls Try.prog 51 [aE e, cI m] (.pv (cI (nodesF e m))) := by
  refine Exp.ind (P := fun e => OkE e → ∀ m : Int, 0 ≤ m → m ≤ 20 → ACalls Try.prog 51 [aE e, cI m] (.pv (cI (nodesF e m)))) (fun op n u s l ih he m hm0 hm1 => ?_) e
  cases he with
  | mk hs hl h =>
  rw [aE_mk, nodesF]
  refine ACalls.of_W (qs := [cI (nodesL l m (1 + (s.length : Int) / 40))]) [4] 36 Try.func51 (by kernel_rfl) rfl rfl rfl fun G => ?_
  refine W.initA (hw := ?_)
  repeat' (first
    | apply RG.nil
    | apply Lex.nil
    | apply Then.n
    | apply Then.r
    | apply Then.x
    | apply InBlock.n
    | apply InBlock.r
    | apply InBlock.hit
    | (apply InBlock.miss; exact rfl)
    | apply W.seq
    | apply W.region
    | apply W.block
    | apply W.skip
    | apply W.ret
    | apply W.exit
    | ((first | apply U_ | (apply Ug_; exact rfl; exact rfl) | (apply Ugq_; exact rfl; exact rfl)); (first
    | exact QX.Move TYok
    | exact QX.Asg TYok
    | exact QX.Fld TYok
    | exact QX.Ld TYok
    | exact QX.Bin TYok
    | exact QX.Pick TYok
    | exact QX.Len TYok
    | exact QX.Idx TYok); exact rfl)
    | refine SX.Box TYok (h := ?_)
    | (apply RG.gT; exact rfl; exact rfl; (first | assumption | decide))
    | (apply RG.gF; exact rfl; exact rfl; (first | assumption | decide | (rw [ne_eq, Bool.not_eq_true]; assumption) | (rw [ne_eq, Bool.not_eq_false]; assumption)); exact rfl)
    | (refine W.condA (ht := fun hb => ?_) (hf := fun hb => ?_) <;> (try simp at hb) <;> (try (exfalso; omega))))
  apply W.loopP (σ := Nat × Int) 36 [1, 2] (fun (k, a) => k ≤ l.length ∧ 1 ≤ a ∧ a ≤ 300000000000000020 ∧ nodesL l m (1 + (s.length : Int) / 40) = nodesL (l.drop k) m a) (fun (k, a) => [(5, vI a), (6, vI k)]) (fun _ => [(2, ⟨35, 5, [[.int .i64 op, .int .i64 n, .int .i64 u, .str s, .sl (l.map encX)]]⟩)]) (fun (k, a) => l.length - k) ((0, 1 + (s.length : Int) / 40))
  case hp => repeat (first | exact Pick.nil | apply Pick.cons rfl)
  case h0 =>
    refine ⟨⟨by simp, by omega, by omega, by simp⟩, ?_⟩
    exact Le.auto
  case round =>
    rintro ⟨k, a⟩ ⟨k1, k2, k3, k4⟩
    apply W.norm (by repeat (first | exact App.nil | apply App.cons))
    dsimp only
    by_cases hk : k < l.length ∧ a ≤ m
    · have hk1 := hk.1
      have q := ih (nth l k) (nth_mem hk.1) (h _ (nth_mem hk.1)) (m - a) (by omega) (by omega)
      have qb := nodesF_b (nth l k) (m - a) (h _ (nth_mem hk.1))
      repeat' (first
        | apply RG.nil
        | apply Lex.nil
        | apply Then.n
        | apply Then.r
        | apply Then.x
        | apply InBlock.n
        | apply InBlock.r
        | apply InBlock.hit
        | (apply InBlock.miss; exact rfl)
        | apply W.seq
        | apply W.region
        | apply W.block
        | apply W.skip
        | apply W.ret
        | apply W.exit
        | ((first | apply U_ | (apply Ug_; exact rfl; exact rfl) | (apply Ugq_; exact rfl; exact rfl)); (first
    | exact QX.Move TYok
    | exact QX.Asg TYok
    | exact QX.Fld TYok
    | exact QX.Ld TYok
    | exact QX.Bin TYok
    | exact QX.Pick TYok
    | exact QX.Len TYok
    | exact QX.Idx TYok
    | (apply Q_call (q); exact EvL.auto; exact rfl)); exact rfl)
        | refine SX.Box TYok (h := ?_)
        | (apply RG.gT; exact rfl; exact rfl; (first | assumption | decide))
        | (apply RG.gF; exact rfl; exact rfl; (first | assumption | decide | (rw [ne_eq, Bool.not_eq_true]; assumption) | (rw [ne_eq, Bool.not_eq_false]; assumption)); exact rfl)
        | (refine W.condA (ht := fun hb => ?_) (hf := fun hb => ?_) <;> (try simp at hb) <;> (try (exfalso; omega))))
      refine ⟨(k + 1, a + nodesF (nth l k) (m - a)), ⟨by omega, by omega, by omega, ?_⟩, ?_, ?_⟩
      · rw [k4, drop_nth hk.1, nodesL, if_pos hk.2]
      · exact Le.auto
      · (try simp only); omega
    · have e0 : nodesL (l.drop k) m a = a := by
        by_cases hk2 : k < l.length
        · rw [drop_nth hk2, nodesL, if_neg (by omega)]
        · rw [List.drop_eq_nil_of_le (by omega), nodesL]
      rw [k4, e0]
      repeat' (first
        | apply RG.nil
        | apply Lex.nil
        | apply Then.n
        | apply Then.r
        | apply Then.x
        | apply InBlock.n
        | apply InBlock.r
        | apply InBlock.hit
        | (apply InBlock.miss; exact rfl)
        | apply W.seq
        | apply W.region
        | apply W.block
        | apply W.skip
        | apply W.ret
        | apply W.exit
        | ((first | apply U_ | (apply Ug_; exact rfl; exact rfl) | (apply Ugq_; exact rfl; exact rfl)); (first
    | exact QX.Move TYok
    | exact QX.Asg TYok
    | exact QX.Fld TYok
    | exact QX.Ld TYok
    | exact QX.Bin TYok
    | exact QX.Pick TYok
    | exact QX.Len TYok
    | exact QX.Idx TYok); exact rfl)
        | refine SX.Box TYok (h := ?_)
        | (apply RG.gT; exact rfl; exact rfl; (first | assumption | decide))
        | (apply RG.gF; exact rfl; exact rfl; (first | assumption | decide | (rw [ne_eq, Bool.not_eq_true]; assumption) | (rw [ne_eq, Bool.not_eq_false]; assumption)); exact rfl)
        | (refine W.condA (ht := fun hb => ?_) (hf := fun hb => ?_) <;> (try simp at hb) <;> (try (exfalso; omega))))
      exact Fin.ret ResL.auto
def fewL (y : Let) : Bool := decide ((y.name.length : Int) ≤ 40) && decide (nodesF y.body 20 ≤ 20)
def fewV (y : Cov) : Bool := decide ((y.name.length : Int) ≤ 40) && decide (nodesF y.must 20 ≤ 20)
def fewS (s : Str) : Bool := decide ((s.length : Int) ≤ 40)
def fewH (x : Ind) : Bool := decide ((x.lets.length : Int) ≤ 4) && decide ((x.covs.length : Int) ≤ 4) && decide ((x.calls.length : Int) ≤ 4) && decide ((x.favour.length : Int) ≤ 4) && decide ((x.name.length : Int) ≤ 40) && decide ((x.issuer.length : Int) ≤ 40) && decide (nodesF x.coupon 20 ≤ 20)
def fewN (x : Ind) : Bool := fewH x && x.lets.all fewL && x.covs.all fewV && x.favour.all fewS
theorem all_no {α : Type} [Inhabited α] {l : List α} {p : α → Bool} {j : Nat} (hj : j < l.length) (h : p (nth l j) = false) : l.all p = false := by
  cases hc : l.all p with
  | false => rfl
  | true => rw [List.all_eq_true.1 hc _ (nth_mem hj)] at h; cases h
theorem all_yes {α : Type} [Inhabited α] {l : List α} {p : α → Bool} (h : ∀ j, j < l.length → p (nth l j) = true) : l.all p = true := List.all_eq_true.2 fun y hy => by
  obtain ⟨j, hj, rfl⟩ := List.getElem_of_mem hy
  have := h j hj
  rwa [nth_eq hj] at this
theorem fewH_iff (x : Ind) : fewH x = true ↔ (x.lets.length : Int) ≤ 4 ∧ (x.covs.length : Int) ≤ 4 ∧ (x.calls.length : Int) ≤ 4 ∧ (x.favour.length : Int) ≤ 4 ∧ (x.name.length : Int) ≤ 40 ∧ (x.issuer.length : Int) ≤ 40 ∧ nodesF x.coupon 20 ≤ 20 := by
  simp only [fewH, Bool.and_eq_true, decide_eq_true_iff, and_assoc]
theorem fewN_ok (x : Ind) (hx : OkN x) : ACalls Try.prog 38 [aN x] (.pv (cB (fewN x))) := by
  have q := nodes_ok x.coupon hx.coupon 20 (by omega) (by omega)
  cases hh : fewH x with
  | false =>
    have hn : ¬ ((x.lets.length : Int) ≤ 4 ∧ (x.covs.length : Int) ≤ 4 ∧ (x.calls.length : Int) ≤ 4 ∧ (x.favour.length : Int) ≤ 4 ∧ (x.name.length : Int) ≤ 40 ∧ (x.issuer.length : Int) ≤ 40 ∧ nodesF x.coupon 20 ≤ 20) := fun c => by rw [(fewH_iff x).2 c] at hh; cases hh
    rw [fewN, hh, Bool.false_and, Bool.false_and, Bool.false_and]
    refine ACalls.of_W (qs := [cB false]) [2] 110 Try.func38 (by kernel_rfl) rfl rfl rfl fun G => ?_
    refine W.initA (hw := ?_)
    repeat' (first
      | apply RG.nil
      | apply Lex.nil
      | apply Then.n
      | apply Then.r
      | apply Then.x
      | apply InBlock.n
      | apply InBlock.r
      | apply InBlock.hit
      | (apply InBlock.miss; exact rfl)
      | apply W.seq
      | apply W.region
      | apply W.block
      | apply W.skip
      | apply W.ret
      | apply W.exit
      | ((first | apply U_ | (apply Ug_; exact rfl; exact rfl) | (apply Ugq_; exact rfl; exact rfl)); (first
    | exact QX.Move TYok
    | exact QX.Asg TYok
    | exact QX.Fld TYok
    | exact QX.Ld TYok
    | exact QX.Bin TYok
    | exact QX.Pick TYok
    | exact QX.Len TYok
    | exact QX.Idx TYok
    | (apply Q_calld (q); exact EvD.auto)); exact rfl)
      | refine SX.Box TYok (h := ?_)
      | (apply RG.gT; exact rfl; exact rfl; (first | assumption | decide))
      | (apply RG.gF; exact rfl; exact rfl; (first | assumption | decide | (rw [ne_eq, Bool.not_eq_true]; assumption) | (rw [ne_eq, Bool.not_eq_false]; assumption)); exact rfl)
      | (refine W.condA (ht := fun hb => ?_) (hf := fun hb => ?_) <;> (try simp at hb) <;> (try (exfalso; omega))))
    exact Fin.ret ResL.auto
  | true =>
    have hp := (fewH_iff x).1 hh
    have e1 : fewN x = (x.lets.all fewL && x.covs.all fewV && x.favour.all fewS) := by rw [fewN, hh, Bool.true_and]
    refine ACalls.of_W (qs := [cB (fewN x)]) [2] 110 Try.func38 (by kernel_rfl) rfl rfl rfl fun G => ?_
    refine W.initA (hw := ?_)
    repeat' (first
      | apply RG.nil
      | apply Lex.nil
      | apply Then.n
      | apply Then.r
      | apply Then.x
      | apply InBlock.n
      | apply InBlock.r
      | apply InBlock.hit
      | (apply InBlock.miss; exact rfl)
      | apply W.seq
      | apply W.region
      | apply W.block
      | apply W.skip
      | apply W.ret
      | apply W.exit
      | ((first | apply U_ | (apply Ug_; exact rfl; exact rfl) | (apply Ugq_; exact rfl; exact rfl)); (first
    | exact QX.Move TYok
    | exact QX.Asg TYok
    | exact QX.Fld TYok
    | exact QX.Ld TYok
    | exact QX.Bin TYok
    | exact QX.Pick TYok
    | exact QX.Len TYok
    | exact QX.Idx TYok
    | (apply Q_calld (q); exact EvD.auto)); exact rfl)
      | refine SX.Box TYok (h := ?_)
      | (apply RG.gT; exact rfl; exact rfl; (first | assumption | decide))
      | (apply RG.gF; exact rfl; exact rfl; (first | assumption | decide | (rw [ne_eq, Bool.not_eq_true]; assumption) | (rw [ne_eq, Bool.not_eq_false]; assumption)); exact rfl)
      | (refine W.condA (ht := fun hb => ?_) (hf := fun hb => ?_) <;> (try simp at hb) <;> (try (exfalso; omega))))
    apply W.loopP (σ := Nat) 110 [1] (fun k => k ≤ x.lets.length ∧ (∀ j, j < k → fewL (nth x.lets j) = true)) (fun k => [(3, vI k)]) (fun k => [(1, ⟨40, 25, [encN x]⟩)]) (fun k => x.lets.length - k) (0)
    case hp => repeat (first | exact Pick.nil | apply Pick.cons rfl)
    case h0 =>
      refine ⟨⟨by simp, fun j hj => absurd hj (by omega)⟩, ?_⟩
      exact Le.auto
    case round =>
      rintro k ⟨k1, k2⟩
      apply W.norm (by repeat (first | exact App.nil | apply App.cons))
      by_cases hk : k < x.lets.length
      · have q2 := nodes_ok (nth x.lets k).body (hx.lete _ (nth_mem hk)) 20 (by omega) (by omega)
        cases hc : fewL (nth x.lets k) with
        | false =>
          have hd := hc
          simp only [fewL, Bool.and_eq_false_iff, decide_eq_false_iff_not] at hd
          rw [e1, all_no hk hc, Bool.false_and, Bool.false_and]
          repeat' (first
            | apply RG.nil
            | apply Lex.nil
            | apply Then.n
            | apply Then.r
            | apply Then.x
            | apply InBlock.n
            | apply InBlock.r
            | apply InBlock.hit
            | (apply InBlock.miss; exact rfl)
            | apply W.seq
            | apply W.region
            | apply W.block
            | apply W.skip
            | apply W.ret
            | apply W.exit
            | ((first | apply U_ | (apply Ug_; exact rfl; exact rfl) | (apply Ugq_; exact rfl; exact rfl)); (first
    | exact QX.Move TYok
    | exact QX.Asg TYok
    | exact QX.Fld TYok
    | exact QX.Ld TYok
    | exact QX.Bin TYok
    | exact QX.Pick TYok
    | exact QX.Len TYok
    | exact QX.Idx TYok
    | (apply Q_calld (q2); exact EvD.auto)); exact rfl)
            | refine SX.Box TYok (h := ?_)
            | (apply RG.gT; exact rfl; exact rfl; (first | assumption | decide))
            | (apply RG.gF; exact rfl; exact rfl; (first | assumption | decide | (rw [ne_eq, Bool.not_eq_true]; assumption) | (rw [ne_eq, Bool.not_eq_false]; assumption)); exact rfl)
            | (refine W.condA (ht := fun hb => ?_) (hf := fun hb => ?_) <;> (try simp at hb) <;> (try (exfalso; omega))))
          exact Fin.ret ResL.auto
        | true =>
          have hd := hc
          simp only [fewL, Bool.and_eq_true, decide_eq_true_iff] at hd
          repeat' (first
            | apply RG.nil
            | apply Lex.nil
            | apply Then.n
            | apply Then.r
            | apply Then.x
            | apply InBlock.n
            | apply InBlock.r
            | apply InBlock.hit
            | (apply InBlock.miss; exact rfl)
            | apply W.seq
            | apply W.region
            | apply W.block
            | apply W.skip
            | apply W.ret
            | apply W.exit
            | ((first | apply U_ | (apply Ug_; exact rfl; exact rfl) | (apply Ugq_; exact rfl; exact rfl)); (first
    | exact QX.Move TYok
    | exact QX.Asg TYok
    | exact QX.Fld TYok
    | exact QX.Ld TYok
    | exact QX.Bin TYok
    | exact QX.Pick TYok
    | exact QX.Len TYok
    | exact QX.Idx TYok
    | (apply Q_calld (q2); exact EvD.auto)); exact rfl)
            | refine SX.Box TYok (h := ?_)
            | (apply RG.gT; exact rfl; exact rfl; (first | assumption | decide))
            | (apply RG.gF; exact rfl; exact rfl; (first | assumption | decide | (rw [ne_eq, Bool.not_eq_true]; assumption) | (rw [ne_eq, Bool.not_eq_false]; assumption)); exact rfl)
            | (refine W.condA (ht := fun hb => ?_) (hf := fun hb => ?_) <;> (try simp at hb) <;> (try (exfalso; omega))))
          refine ⟨k + 1, ⟨by omega, upto_succ (q := fun j => fewL (nth x.lets j)) k2 hc⟩, ?_, ?_⟩
          · exact Le.auto
          · (try simp only); omega
      · obtain rfl : k = x.lets.length := by omega
        have l1 := all_yes k2
        repeat' (first
          | apply RG.nil
          | apply Lex.nil
          | apply Then.n
          | apply Then.r
          | apply Then.x
          | apply InBlock.n
          | apply InBlock.r
          | apply InBlock.hit
          | (apply InBlock.miss; exact rfl)
          | apply W.seq
          | apply W.region
          | apply W.block
          | apply W.skip
          | apply W.ret
          | apply W.exit
          | ((first | apply U_ | (apply Ug_; exact rfl; exact rfl) | (apply Ugq_; exact rfl; exact rfl)); (first
    | exact QX.Move TYok
    | exact QX.Asg TYok
    | exact QX.Fld TYok
    | exact QX.Ld TYok
    | exact QX.Bin TYok
    | exact QX.Pick TYok
    | exact QX.Len TYok
    | exact QX.Idx TYok); exact rfl)
          | refine SX.Box TYok (h := ?_)
          | (apply RG.gT; exact rfl; exact rfl; (first | assumption | decide))
          | (apply RG.gF; exact rfl; exact rfl; (first | assumption | decide | (rw [ne_eq, Bool.not_eq_true]; assumption) | (rw [ne_eq, Bool.not_eq_false]; assumption)); exact rfl)
          | (refine W.condA (ht := fun hb => ?_) (hf := fun hb => ?_) <;> (try simp at hb) <;> (try (exfalso; omega))))
        apply W.loopP (σ := Nat) 110 [1] (fun k => k ≤ x.covs.length ∧ (∀ j, j < k → fewV (nth x.covs j) = true)) (fun k => [(4, vI k)]) (fun k => [(1, ⟨40, 25, [encN x]⟩)]) (fun k => x.covs.length - k) (0)
        case hp => repeat (first | exact Pick.nil | apply Pick.cons rfl)
        case h0 =>
          refine ⟨⟨by simp, fun j hj => absurd hj (by omega)⟩, ?_⟩
          exact Le.auto
        case round =>
          rintro k ⟨k1, k2⟩
          apply W.norm (by repeat (first | exact App.nil | apply App.cons))
          by_cases hk : k < x.covs.length
          · have q2 := nodes_ok (nth x.covs k).must (hx.cove _ (nth_mem hk)) 20 (by omega) (by omega)
            cases hc : fewV (nth x.covs k) with
            | false =>
              have hd := hc
              simp only [fewV, Bool.and_eq_false_iff, decide_eq_false_iff_not] at hd
              rw [e1, all_no hk hc, Bool.and_false, Bool.false_and]
              repeat' (first
                | apply RG.nil
                | apply Lex.nil
                | apply Then.n
                | apply Then.r
                | apply Then.x
                | apply InBlock.n
                | apply InBlock.r
                | apply InBlock.hit
                | (apply InBlock.miss; exact rfl)
                | apply W.seq
                | apply W.region
                | apply W.block
                | apply W.skip
                | apply W.ret
                | apply W.exit
                | ((first | apply U_ | (apply Ug_; exact rfl; exact rfl) | (apply Ugq_; exact rfl; exact rfl)); (first
    | exact QX.Move TYok
    | exact QX.Asg TYok
    | exact QX.Fld TYok
    | exact QX.Ld TYok
    | exact QX.Bin TYok
    | exact QX.Pick TYok
    | exact QX.Len TYok
    | exact QX.Idx TYok
    | (apply Q_calld (q2); exact EvD.auto)); exact rfl)
                | refine SX.Box TYok (h := ?_)
                | (apply RG.gT; exact rfl; exact rfl; (first | assumption | decide))
                | (apply RG.gF; exact rfl; exact rfl; (first | assumption | decide | (rw [ne_eq, Bool.not_eq_true]; assumption) | (rw [ne_eq, Bool.not_eq_false]; assumption)); exact rfl)
                | (refine W.condA (ht := fun hb => ?_) (hf := fun hb => ?_) <;> (try simp at hb) <;> (try (exfalso; omega))))
              exact Fin.ret ResL.auto
            | true =>
              have hd := hc
              simp only [fewV, Bool.and_eq_true, decide_eq_true_iff] at hd
              repeat' (first
                | apply RG.nil
                | apply Lex.nil
                | apply Then.n
                | apply Then.r
                | apply Then.x
                | apply InBlock.n
                | apply InBlock.r
                | apply InBlock.hit
                | (apply InBlock.miss; exact rfl)
                | apply W.seq
                | apply W.region
                | apply W.block
                | apply W.skip
                | apply W.ret
                | apply W.exit
                | ((first | apply U_ | (apply Ug_; exact rfl; exact rfl) | (apply Ugq_; exact rfl; exact rfl)); (first
    | exact QX.Move TYok
    | exact QX.Asg TYok
    | exact QX.Fld TYok
    | exact QX.Ld TYok
    | exact QX.Bin TYok
    | exact QX.Pick TYok
    | exact QX.Len TYok
    | exact QX.Idx TYok
    | (apply Q_calld (q2); exact EvD.auto)); exact rfl)
                | refine SX.Box TYok (h := ?_)
                | (apply RG.gT; exact rfl; exact rfl; (first | assumption | decide))
                | (apply RG.gF; exact rfl; exact rfl; (first | assumption | decide | (rw [ne_eq, Bool.not_eq_true]; assumption) | (rw [ne_eq, Bool.not_eq_false]; assumption)); exact rfl)
                | (refine W.condA (ht := fun hb => ?_) (hf := fun hb => ?_) <;> (try simp at hb) <;> (try (exfalso; omega))))
              refine ⟨k + 1, ⟨by omega, upto_succ (q := fun j => fewV (nth x.covs j)) k2 hc⟩, ?_, ?_⟩
              · exact Le.auto
              · (try simp only); omega
          · obtain rfl : k = x.covs.length := by omega
            have l2 := all_yes k2
            repeat' (first
              | apply RG.nil
              | apply Lex.nil
              | apply Then.n
              | apply Then.r
              | apply Then.x
              | apply InBlock.n
              | apply InBlock.r
              | apply InBlock.hit
              | (apply InBlock.miss; exact rfl)
              | apply W.seq
              | apply W.region
              | apply W.block
              | apply W.skip
              | apply W.ret
              | apply W.exit
              | ((first | apply U_ | (apply Ug_; exact rfl; exact rfl) | (apply Ugq_; exact rfl; exact rfl)); (first
    | exact QX.Move TYok
    | exact QX.Asg TYok
    | exact QX.Fld TYok
    | exact QX.Ld TYok
    | exact QX.Bin TYok
    | exact QX.Pick TYok
    | exact QX.Len TYok
    | exact QX.Idx TYok); exact rfl)
              | refine SX.Box TYok (h := ?_)
              | (apply RG.gT; exact rfl; exact rfl; (first | assumption | decide))
              | (apply RG.gF; exact rfl; exact rfl; (first | assumption | decide | (rw [ne_eq, Bool.not_eq_true]; assumption) | (rw [ne_eq, Bool.not_eq_false]; assumption)); exact rfl)
              | (refine W.condA (ht := fun hb => ?_) (hf := fun hb => ?_) <;> (try simp at hb) <;> (try (exfalso; omega))))
            apply W.loopP (σ := Nat) 110 [1] (fun k => k ≤ x.favour.length ∧ (∀ j, j < k → fewS (nth x.favour j) = true)) (fun k => [(5, vI k)]) (fun k => [(1, ⟨40, 25, [encN x]⟩)]) (fun k => x.favour.length - k) (0)
            case hp => repeat (first | exact Pick.nil | apply Pick.cons rfl)
            case h0 =>
              refine ⟨⟨by simp, fun j hj => absurd hj (by omega)⟩, ?_⟩
              exact Le.auto
            case round =>
              rintro k ⟨k1, k2⟩
              apply W.norm (by repeat (first | exact App.nil | apply App.cons))
              by_cases hk : k < x.favour.length
              · cases hc : fewS (nth x.favour k) with
                | false =>
                  have hd := hc
                  simp only [fewS, decide_eq_false_iff_not] at hd
                  rw [e1, all_no hk hc, Bool.and_false]
                  repeat' (first
                    | apply RG.nil
                    | apply Lex.nil
                    | apply Then.n
                    | apply Then.r
                    | apply Then.x
                    | apply InBlock.n
                    | apply InBlock.r
                    | apply InBlock.hit
                    | (apply InBlock.miss; exact rfl)
                    | apply W.seq
                    | apply W.region
                    | apply W.block
                    | apply W.skip
                    | apply W.ret
                    | apply W.exit
                    | ((first | apply U_ | (apply Ug_; exact rfl; exact rfl) | (apply Ugq_; exact rfl; exact rfl)); (first
    | exact QX.Move TYok
    | exact QX.Asg TYok
    | exact QX.Fld TYok
    | exact QX.Ld TYok
    | exact QX.Bin TYok
    | exact QX.Pick TYok
    | exact QX.Len TYok
    | exact QX.Idx TYok); exact rfl)
                    | refine SX.Box TYok (h := ?_)
                    | (apply RG.gT; exact rfl; exact rfl; (first | assumption | decide))
                    | (apply RG.gF; exact rfl; exact rfl; (first | assumption | decide | (rw [ne_eq, Bool.not_eq_true]; assumption) | (rw [ne_eq, Bool.not_eq_false]; assumption)); exact rfl)
                    | (refine W.condA (ht := fun hb => ?_) (hf := fun hb => ?_) <;> (try simp at hb) <;> (try (exfalso; omega))))
                  exact Fin.ret ResL.auto
                | true =>
                  have hd := hc
                  simp only [fewS, decide_eq_true_iff] at hd
                  repeat' (first
                    | apply RG.nil
                    | apply Lex.nil
                    | apply Then.n
                    | apply Then.r
                    | apply Then.x
                    | apply InBlock.n
                    | apply InBlock.r
                    | apply InBlock.hit
                    | (apply InBlock.miss; exact rfl)
                    | apply W.seq
                    | apply W.region
                    | apply W.block
                    | apply W.skip
                    | apply W.ret
                    | apply W.exit
                    | ((first | apply U_ | (apply Ug_; exact rfl; exact rfl) | (apply Ugq_; exact rfl; exact rfl)); (first
    | exact QX.Move TYok
    | exact QX.Asg TYok
    | exact QX.Fld TYok
    | exact QX.Ld TYok
    | exact QX.Bin TYok
    | exact QX.Pick TYok
    | exact QX.Len TYok
    | exact QX.Idx TYok); exact rfl)
                    | refine SX.Box TYok (h := ?_)
                    | (apply RG.gT; exact rfl; exact rfl; (first | assumption | decide))
                    | (apply RG.gF; exact rfl; exact rfl; (first | assumption | decide | (rw [ne_eq, Bool.not_eq_true]; assumption) | (rw [ne_eq, Bool.not_eq_false]; assumption)); exact rfl)
                    | (refine W.condA (ht := fun hb => ?_) (hf := fun hb => ?_) <;> (try simp at hb) <;> (try (exfalso; omega))))
                  refine ⟨k + 1, ⟨by omega, upto_succ (q := fun j => fewS (nth x.favour j)) k2 hc⟩, ?_, ?_⟩
                  · exact Le.auto
                  · (try simp only); omega
              · obtain rfl : k = x.favour.length := by omega
                have l3 := all_yes k2
                rw [e1, l1, l2, l3]
                repeat' (first
                  | apply RG.nil
                  | apply Lex.nil
                  | apply Then.n
                  | apply Then.r
                  | apply Then.x
                  | apply InBlock.n
                  | apply InBlock.r
                  | apply InBlock.hit
                  | (apply InBlock.miss; exact rfl)
                  | apply W.seq
                  | apply W.region
                  | apply W.block
                  | apply W.skip
                  | apply W.ret
                  | apply W.exit
                  | ((first | apply U_ | (apply Ug_; exact rfl; exact rfl) | (apply Ugq_; exact rfl; exact rfl)); (first
    | exact QX.Move TYok
    | exact QX.Asg TYok
    | exact QX.Fld TYok
    | exact QX.Ld TYok
    | exact QX.Bin TYok
    | exact QX.Pick TYok
    | exact QX.Len TYok
    | exact QX.Idx TYok); exact rfl)
                  | refine SX.Box TYok (h := ?_)
                  | (apply RG.gT; exact rfl; exact rfl; (first | assumption | decide))
                  | (apply RG.gF; exact rfl; exact rfl; (first | assumption | decide | (rw [ne_eq, Bool.not_eq_true]; assumption) | (rw [ne_eq, Bool.not_eq_false]; assumption)); exact rfl)
                  | (refine W.condA (ht := fun hb => ?_) (hf := fun hb => ?_) <;> (try simp at hb) <;> (try (exfalso; omega))))
                exact Fin.ret ResL.auto
def fewAll (l m : List Ind) (n : Int) : Bool := decide ((l.length : Int) ≤ n) && decide ((m.length : Int) ≤ n) && l.all fewN && m.all fewN
theorem fewAll_ok (l m : List Ind) (n : Int) (hl : ∀ x ∈ l, OkN x) (hm : ∀ x ∈ m, OkN x) (z1 : l.length ≤ 9223372036854775807) (z2 : m.length ≤ 9223372036854775807) : ACalls Try.prog 20 [slN l, slN m, cI n] (.pv (cB (fewAll l m n))) := by
  by_cases hh : (l.length : Int) ≤ n ∧ (m.length : Int) ≤ n
  case neg =>
    have e0 : fewAll l m n = false := by
      cases hq : fewAll l m n with
      | false => rfl
      | true =>
        simp only [fewAll, Bool.and_eq_true, decide_eq_true_iff] at hq
        exact absurd hq.1.1 hh
    rw [e0]
    refine ACalls.of_W (qs := [cB false]) [6] 43 Try.func20 (by kernel_rfl) rfl rfl rfl fun G => ?_
    refine W.initA (hw := ?_)
    repeat' (first
      | apply RG.nil
      | apply Lex.nil
      | apply Then.n
      | apply Then.r
      | apply Then.x
      | apply InBlock.n
      | apply InBlock.r
      | apply InBlock.hit
      | (apply InBlock.miss; exact rfl)
      | apply W.seq
      | apply W.region
      | apply W.block
      | apply W.skip
      | apply W.ret
      | apply W.exit
      | ((first | apply U_ | (apply Ug_; exact rfl; exact rfl) | (apply Ugq_; exact rfl; exact rfl)); (first
    | exact QX.Move TYok
    | exact QX.Asg TYok
    | exact QX.Ld TYok
    | exact QX.Bin TYok
    | exact QX.Pick TYok
    | exact QX.Un TYok
    | exact QX.Len TYok
    | exact QX.Idx TYok); exact rfl)
      | (apply RG.gT; exact rfl; exact rfl; (first | assumption | decide))
      | (apply RG.gF; exact rfl; exact rfl; (first | assumption | decide | (rw [ne_eq, Bool.not_eq_true]; assumption) | (rw [ne_eq, Bool.not_eq_false]; assumption)); exact rfl)
      | (refine W.condA (ht := fun hb => ?_) (hf := fun hb => ?_) <;> (try simp at hb) <;> (try (exfalso; omega))))
    exact Fin.ret ResL.auto
  have e1 : fewAll l m n = (l.all fewN && m.all fewN) := by rw [fewAll, decide_eq_true hh.1, decide_eq_true hh.2]; rfl
  refine ACalls.of_W (qs := [cB (fewAll l m n)]) [6] 43 Try.func20 (by kernel_rfl) rfl rfl rfl fun G => ?_
  refine W.initA (hw := ?_)
  repeat' (first
    | apply RG.nil
    | apply Lex.nil
    | apply Then.n
    | apply Then.r
    | apply Then.x
    | apply InBlock.n
    | apply InBlock.r
    | apply InBlock.hit
    | (apply InBlock.miss; exact rfl)
    | apply W.seq
    | apply W.region
    | apply W.block
    | apply W.skip
    | apply W.ret
    | apply W.exit
    | ((first | apply U_ | (apply Ug_; exact rfl; exact rfl) | (apply Ugq_; exact rfl; exact rfl)); (first
    | exact QX.Move TYok
    | exact QX.Asg TYok
    | exact QX.Ld TYok
    | exact QX.Bin TYok
    | exact QX.Pick TYok
    | exact QX.Un TYok
    | exact QX.Len TYok
    | exact QX.Idx TYok); exact rfl)
    | (apply RG.gT; exact rfl; exact rfl; (first | assumption | decide))
    | (apply RG.gF; exact rfl; exact rfl; (first | assumption | decide | (rw [ne_eq, Bool.not_eq_true]; assumption) | (rw [ne_eq, Bool.not_eq_false]; assumption)); exact rfl)
    | (refine W.condA (ht := fun hb => ?_) (hf := fun hb => ?_) <;> (try simp at hb) <;> (try (exfalso; omega))))
  apply W.loopP (σ := Nat) 43 [0, 1] (fun k => k ≤ l.length ∧ (∀ j, j < k → fewN (nth l j) = true)) (fun k => [(7, vI k)]) (fun k => []) (fun k => l.length - k) (0)
  case hp => repeat (first | exact Pick.nil | apply Pick.cons rfl)
  case h0 =>
    refine ⟨⟨by simp, fun j hj => absurd hj (by omega)⟩, ?_⟩
    exact Le.auto
  case round =>
    rintro k ⟨k1, k2⟩
    apply W.norm (by repeat (first | exact App.nil | apply App.cons))
    by_cases hk : k < l.length
    · have q := fewN_ok (nth l k) (hl _ (nth_mem hk))
      cases hc : fewN (nth l k) with
      | false =>
        rw [hc] at q
        rw [e1, all_no hk hc, Bool.false_and]
        repeat' (first
          | apply RG.nil
          | apply Lex.nil
          | apply Then.n
          | apply Then.r
          | apply Then.x
          | apply InBlock.n
          | apply InBlock.r
          | apply InBlock.hit
          | (apply InBlock.miss; exact rfl)
          | apply W.seq
          | apply W.region
          | apply W.block
          | apply W.skip
          | apply W.ret
          | apply W.exit
          | ((first | apply U_ | (apply Ug_; exact rfl; exact rfl) | (apply Ugq_; exact rfl; exact rfl)); (first
    | exact QX.Move TYok
    | exact QX.Asg TYok
    | exact QX.Ld TYok
    | exact QX.Bin TYok
    | exact QX.Pick TYok
    | exact QX.Un TYok
    | exact QX.Len TYok
    | exact QX.Idx TYok
    | (apply Q_calld (q); exact EvD.auto)); exact rfl)
          | (apply RG.gT; exact rfl; exact rfl; (first | assumption | decide))
          | (apply RG.gF; exact rfl; exact rfl; (first | assumption | decide | (rw [ne_eq, Bool.not_eq_true]; assumption) | (rw [ne_eq, Bool.not_eq_false]; assumption)); exact rfl)
          | (refine W.condA (ht := fun hb => ?_) (hf := fun hb => ?_) <;> (try simp at hb) <;> (try (exfalso; omega))))
        exact Fin.ret ResL.auto
      | true =>
        rw [hc] at q
        repeat' (first
          | apply RG.nil
          | apply Lex.nil
          | apply Then.n
          | apply Then.r
          | apply Then.x
          | apply InBlock.n
          | apply InBlock.r
          | apply InBlock.hit
          | (apply InBlock.miss; exact rfl)
          | apply W.seq
          | apply W.region
          | apply W.block
          | apply W.skip
          | apply W.ret
          | apply W.exit
          | ((first | apply U_ | (apply Ug_; exact rfl; exact rfl) | (apply Ugq_; exact rfl; exact rfl)); (first
    | exact QX.Move TYok
    | exact QX.Asg TYok
    | exact QX.Ld TYok
    | exact QX.Bin TYok
    | exact QX.Pick TYok
    | exact QX.Un TYok
    | exact QX.Len TYok
    | exact QX.Idx TYok
    | (apply Q_calld (q); exact EvD.auto)); exact rfl)
          | (apply RG.gT; exact rfl; exact rfl; (first | assumption | decide))
          | (apply RG.gF; exact rfl; exact rfl; (first | assumption | decide | (rw [ne_eq, Bool.not_eq_true]; assumption) | (rw [ne_eq, Bool.not_eq_false]; assumption)); exact rfl)
          | (refine W.condA (ht := fun hb => ?_) (hf := fun hb => ?_) <;> (try simp at hb) <;> (try (exfalso; omega))))
        refine ⟨k + 1, ⟨by omega, upto_succ (q := fun j => fewN (nth l j)) k2 hc⟩, ?_, ?_⟩
        · exact Le.auto
        · (try simp only); omega
    · obtain rfl : k = l.length := by omega
      have l1 := all_yes k2
      repeat' (first
        | apply RG.nil
        | apply Lex.nil
        | apply Then.n
        | apply Then.r
        | apply Then.x
        | apply InBlock.n
        | apply InBlock.r
        | apply InBlock.hit
        | (apply InBlock.miss; exact rfl)
        | apply W.seq
        | apply W.region
        | apply W.block
        | apply W.skip
        | apply W.ret
        | apply W.exit
        | ((first | apply U_ | (apply Ug_; exact rfl; exact rfl) | (apply Ugq_; exact rfl; exact rfl)); (first
    | exact QX.Move TYok
    | exact QX.Asg TYok
    | exact QX.Ld TYok
    | exact QX.Bin TYok
    | exact QX.Pick TYok
    | exact QX.Un TYok
    | exact QX.Len TYok
    | exact QX.Idx TYok); exact rfl)
        | (apply RG.gT; exact rfl; exact rfl; (first | assumption | decide))
        | (apply RG.gF; exact rfl; exact rfl; (first | assumption | decide | (rw [ne_eq, Bool.not_eq_true]; assumption) | (rw [ne_eq, Bool.not_eq_false]; assumption)); exact rfl)
        | (refine W.condA (ht := fun hb => ?_) (hf := fun hb => ?_) <;> (try simp at hb) <;> (try (exfalso; omega))))
      apply W.loopP (σ := Nat) 43 [1] (fun k => k ≤ m.length ∧ (∀ j, j < k → fewN (nth m j) = true)) (fun k => [(8, vI k)]) (fun k => []) (fun k => m.length - k) (0)
      case hp => repeat (first | exact Pick.nil | apply Pick.cons rfl)
      case h0 =>
        refine ⟨⟨by simp, fun j hj => absurd hj (by omega)⟩, ?_⟩
        exact Le.auto
      case round =>
        rintro k ⟨k1, k2⟩
        apply W.norm (by repeat (first | exact App.nil | apply App.cons))
        by_cases hk : k < m.length
        · have q := fewN_ok (nth m k) (hm _ (nth_mem hk))
          cases hc : fewN (nth m k) with
          | false =>
            rw [hc] at q
            rw [e1, all_no hk hc, Bool.and_false]
            repeat' (first
              | apply RG.nil
              | apply Lex.nil
              | apply Then.n
              | apply Then.r
              | apply Then.x
              | apply InBlock.n
              | apply InBlock.r
              | apply InBlock.hit
              | (apply InBlock.miss; exact rfl)
              | apply W.seq
              | apply W.region
              | apply W.block
              | apply W.skip
              | apply W.ret
              | apply W.exit
              | ((first | apply U_ | (apply Ug_; exact rfl; exact rfl) | (apply Ugq_; exact rfl; exact rfl)); (first
    | exact QX.Move TYok
    | exact QX.Asg TYok
    | exact QX.Ld TYok
    | exact QX.Bin TYok
    | exact QX.Pick TYok
    | exact QX.Un TYok
    | exact QX.Len TYok
    | exact QX.Idx TYok
    | (apply Q_calld (q); exact EvD.auto)); exact rfl)
              | (apply RG.gT; exact rfl; exact rfl; (first | assumption | decide))
              | (apply RG.gF; exact rfl; exact rfl; (first | assumption | decide | (rw [ne_eq, Bool.not_eq_true]; assumption) | (rw [ne_eq, Bool.not_eq_false]; assumption)); exact rfl)
              | (refine W.condA (ht := fun hb => ?_) (hf := fun hb => ?_) <;> (try simp at hb) <;> (try (exfalso; omega))))
            exact Fin.ret ResL.auto
          | true =>
            rw [hc] at q
            repeat' (first
              | apply RG.nil
              | apply Lex.nil
              | apply Then.n
              | apply Then.r
              | apply Then.x
              | apply InBlock.n
              | apply InBlock.r
              | apply InBlock.hit
              | (apply InBlock.miss; exact rfl)
              | apply W.seq
              | apply W.region
              | apply W.block
              | apply W.skip
              | apply W.ret
              | apply W.exit
              | ((first | apply U_ | (apply Ug_; exact rfl; exact rfl) | (apply Ugq_; exact rfl; exact rfl)); (first
    | exact QX.Move TYok
    | exact QX.Asg TYok
    | exact QX.Ld TYok
    | exact QX.Bin TYok
    | exact QX.Pick TYok
    | exact QX.Un TYok
    | exact QX.Len TYok
    | exact QX.Idx TYok
    | (apply Q_calld (q); exact EvD.auto)); exact rfl)
              | (apply RG.gT; exact rfl; exact rfl; (first | assumption | decide))
              | (apply RG.gF; exact rfl; exact rfl; (first | assumption | decide | (rw [ne_eq, Bool.not_eq_true]; assumption) | (rw [ne_eq, Bool.not_eq_false]; assumption)); exact rfl)
              | (refine W.condA (ht := fun hb => ?_) (hf := fun hb => ?_) <;> (try simp at hb) <;> (try (exfalso; omega))))
            refine ⟨k + 1, ⟨by omega, upto_succ (q := fun j => fewN (nth m j)) k2 hc⟩, ?_, ?_⟩
            · exact Le.auto
            · (try simp only); omega
        · obtain rfl : k = m.length := by omega
          have l2 := all_yes k2
          rw [e1, l1, l2]
          repeat' (first
            | apply RG.nil
            | apply Lex.nil
            | apply Then.n
            | apply Then.r
            | apply Then.x
            | apply InBlock.n
            | apply InBlock.r
            | apply InBlock.hit
            | (apply InBlock.miss; exact rfl)
            | apply W.seq
            | apply W.region
            | apply W.block
            | apply W.skip
            | apply W.ret
            | apply W.exit
            | ((first | apply U_ | (apply Ug_; exact rfl; exact rfl) | (apply Ugq_; exact rfl; exact rfl)); (first
    | exact QX.Move TYok
    | exact QX.Asg TYok
    | exact QX.Ld TYok
    | exact QX.Bin TYok
    | exact QX.Pick TYok
    | exact QX.Un TYok
    | exact QX.Len TYok
    | exact QX.Idx TYok); exact rfl)
            | (apply RG.gT; exact rfl; exact rfl; (first | assumption | decide))
            | (apply RG.gF; exact rfl; exact rfl; (first | assumption | decide | (rw [ne_eq, Bool.not_eq_true]; assumption) | (rw [ne_eq, Bool.not_eq_false]; assumption)); exact rfl)
            | (refine W.condA (ht := fun hb => ?_) (hf := fun hb => ?_) <;> (try simp at hb) <;> (try (exfalso; omega))))
          exact Fin.ret ResL.auto
def fewB (l m : List Ind) (y t : List Int) : Bool := fewAll l m 5 && decide ((y.length : Int) ≤ 10) && decide ((t.length : Int) ≤ 10)
theorem fewB_ok (l m : List Ind) (y t : List Int) (hl : ∀ x ∈ l, OkN x) (hm : ∀ x ∈ m, OkN x) (z1 : l.length ≤ 9223372036854775807) (z2 : m.length ≤ 9223372036854775807) : ACalls Try.prog 9 [slN l, slN m, slI y, slI t] (.pv (cB (fewB l m y t))) := by
  have q := fewAll_ok l m 5 hl hm z1 z2
  refine ACalls.of_W (qs := [cB (fewB l m y t)]) [8] 22 Try.func9 (by kernel_rfl) rfl rfl rfl fun G => ?_
  refine W.initA (hw := ?_)
  repeat' (first
    | apply RG.nil
    | apply Lex.nil
    | apply Then.n
    | apply Then.r
    | apply Then.x
    | apply InBlock.n
    | apply InBlock.r
    | apply InBlock.hit
    | (apply InBlock.miss; exact rfl)
    | apply W.seq
    | apply W.region
    | apply W.block
    | apply W.skip
    | apply W.ret
    | apply W.exit
    | ((first | apply U_ | (apply Ug_; exact rfl; exact rfl) | (apply Ugq_; exact rfl; exact rfl)); (first
    | exact QX.Move TYok
    | exact QX.Asg TYok
    | exact QX.Bin TYok
    | exact QX.Pick TYok
    | exact QX.Len TYok
    | (apply Q_call (q); exact EvL.auto; exact rfl)); exact rfl)
    | (apply RG.gT; exact rfl; exact rfl; (first | assumption | decide))
    | (apply RG.gF; exact rfl; exact rfl; (first | assumption | decide | (rw [ne_eq, Bool.not_eq_true]; assumption) | (rw [ne_eq, Bool.not_eq_false]; assumption)); exact rfl)
    | (refine W.condA (ht := fun hb => ?_) (hf := fun hb => ?_) <;> (try simp at hb) <;> (try (exfalso; omega))))
  exact Fin.ret ResL.auto
end Go.Proofs.Ytionjeodcmnneaa
