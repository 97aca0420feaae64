/-
  Part 13 of what the proof rests on.
-/
import Derived.Test.YtjedkgogjehigaaGreatUS12
import Derived.Test.YtjedkgogjehigaaGreatUS06
import Derived.Test.YtjedkgogjehigaaGreatUS04
import Derived.Test.YtjedkgogjehigaaGreatUS11
section
set_option linter.unusedVariables false
set_option linter.unusedSimpArgs false
set_option maxHeartbeats 8000000
set_option linter.unusedSectionVars false
namespace Go.Proofs.YtjedkgogjehigaaGreat
open Lf Go
attribute [local irreducible] PureOp EffOp Ev RG W Then InBlock Lf.Fin nth App InitE Pick SubE EvL EvD EvP EvR ResL Lf.Lex SubR SubBR RA RAll EvC FinO FinM ResM ResD FinS val pw digs trimL
section
theorem hasS_ok (l : List Str) (s : Str) (hl : l.length ≤ 9223372036854775807) : ACalls Tryz.prog 33 [slS l, cS s] (.pv (cB (l.any fun y => decide (y = s)))) := by
  refine ACalls.of_W (qs := [cB (l.any fun y => decide (y = s))]) [4] 18 Tryz.func33 (by kernel_rfl) rfl rfl rfl fun G => ?_
  refine W.initA (hw := ?_)
  repeat' (first | ((first | apply U_); (first | exact QX.B TYok | exact QX.Len TYok | exact QX.Idx TYok); exact rfl) | refine SC ?_ | (apply S_isnil TYok; exact rfl; exact rfl; exact rfl; exact Ev.auto; intro bn hnil) | (refine W.condA (ht := fun hb => ?_) (hf := fun hb => ?_) <;> (try simp at hb) <;> (try (exfalso; omega))))
  apply W.loopP (σ := Nat) 18 [0, 1] (fun k => k ≤ l.length ∧ ((l.take k).any fun y => decide (y = s)) = false) (fun k => [(5, vI k)]) (fun _ => []) (fun k => l.length - k) (0)
  case hp => repeat (first | exact Pick.nil | apply Pick.cons rfl)
  case h0 =>
    refine ⟨by simp, ?_⟩
    exact Le.auto
  case round =>
    rintro k ⟨h1, h2⟩
    apply W.norm (by repeat (first | exact App.nil | apply App.cons))
    by_cases hk : k < l.length
    · by_cases hc : nth l k = s
      · rw [List.any_eq_true.2 ⟨nth l k, nth_mem hk, decide_eq_true hc⟩]
        repeat' (first | ((first | apply U_); (first | exact QX.B TYok | exact QX.Len TYok | exact QX.Idx TYok); exact rfl) | refine SC ?_ | (apply S_isnil TYok; exact rfl; exact rfl; exact rfl; exact Ev.auto; intro bn hnil) | (refine W.condA (ht := fun hb => ?_) (hf := fun hb => ?_) <;> (try simp at hb) <;> (try (exfalso; omega))))
        all_goals first
          | exact Fin.ret ResL.auto
          | (exfalso; exact hb hc)
          | (exfalso; simp_all; done)
          | trace_state
      · repeat' (first | ((first | apply U_); (first | exact QX.B TYok | exact QX.Len TYok | exact QX.Idx TYok); exact rfl) | refine SC ?_ | (apply S_isnil TYok; exact rfl; exact rfl; exact rfl; exact Ev.auto; intro bn hnil) | (refine W.condA (ht := fun hb => ?_) (hf := fun hb => ?_) <;> (try simp at hb) <;> (try (exfalso; omega))))
        all_goals first
          | (refine ⟨k + 1, ⟨by omega, by rw [any_take hk, h2]; exact decide_eq_false hc⟩, ?_, by (try simp only); omega⟩; exact Le.auto)
          | (exfalso; exact hc hb)
          | (exfalso; omega)
          | trace_state
    · obtain rfl : k = l.length := by omega
      rw [List.take_length] at h2
      rw [h2]
      repeat' (first | ((first | apply U_); (first | exact QX.B TYok | exact QX.Len TYok | exact QX.Idx TYok); exact rfl) | refine SC ?_ | (apply S_isnil TYok; exact rfl; exact rfl; exact rfl; exact Ev.auto; intro bn hnil) | (refine W.condA (ht := fun hb => ?_) (hf := fun hb => ?_) <;> (try simp at hb) <;> (try (exfalso; omega))))
      all_goals exact Fin.ret ResL.auto
def hasS (l : List Str) (s : Str) : Bool := l.any fun y => decide (y = s)
mutual
def knowF (N I : List Str) : Exp → Bool
  | .mk op _ _ s l => !((decide (op = 2) && !hasS N s) || (decide (op = 3) && !hasS I s)) && knowFs N I l
def knowFs (N I : List Str) : List Exp → Bool
  | [] => true
  | e :: r => knowF N I e && knowFs N I r
end
theorem knowFs_all (N I : List Str) : ∀ l, knowFs N I l = l.all (knowF N I)
  | [] => rfl
  | e :: r => by rw [knowFs, knowFs_all N I r]; rfl
theorem all_takeK {l : List Exp} {p : Exp → Bool} {k : Nat} (h : k < l.length) : (l.take (k + 1)).all p = ((l.take k).all p && p (nth l k)) := by
  rw [take_nth h]; simp
theorem all_noK {l : List Exp} {p : Exp → Bool} {k : Nat} (hk : k < l.length) (h : p (nth l k) = false) : l.all p = false := by
  rw [← Bool.not_eq_true, List.all_eq_true]
  intro q
  have := q _ (nth_mem hk)
  rw [h] at this; cases this
theorem knows_ok (v : EnvV) (hv : v.Len) (e : Exp) : OkE e → ACalls Tryz.prog 12 [aE e, vV v] (.pv (cB (knowF v.names v.iss e))) := by
  refine Exp.ind (P := fun e => OkE e → ACalls Tryz.prog 12 [aE e, vV v] (.pv (cB (knowF v.names v.iss e)))) (fun op n u s l ih he => ?_) e
  cases he with
  | mk hs hl h =>
  have c1 := hasS_ok v.names s hv.h1
  have c2 := hasS_ok v.iss s hv.h3
  rw [aE_mk, knowF, knowFs_all]
  rw [show (v.names.any fun y => decide (y = s)) = hasS v.names s from rfl] at c1
  rw [show (v.iss.any fun y => decide (y = s)) = hasS v.iss s from rfl] at c2
  generalize hasS v.names s = b1 at *
  generalize hasS v.iss s = b2 at *
  obtain ⟨N, V, I, R⟩ := v
  cases hc : ((decide (op = 2) && !b1) || (decide (op = 3) && !b2)) with
  | true =>
    have hbad : (op = 2 → b1 = true) ∧ (op = 3 → b2 = true) → False := fun q => by
      rcases Bool.or_eq_true _ _ ▸ hc with h | h <;> simp at h <;> simp_all
    refine ACalls.of_W (qs := [cB (!true && l.all (knowF N I))]) [4] 45 Tryz.func12 (by kernel_rfl) rfl rfl rfl fun G => ?_
    refine W.initA (hw := ?_)
    repeat' (first | (refine W.weaken (Le.freeze1 (m := 2) rfl) ?_) | (refine W.weaken (Le.freeze1 (m := 3) rfl) ?_) | ((first | apply U_ | (apply Ug_; exact rfl; exact rfl) | (apply Ugq_; exact rfl; exact rfl) | apply Lex.u | (apply Lex.g; exact rfl; exact rfl) | (apply Lex.gq; exact rfl; exact rfl)); (first | exact QX.B TYok | exact QX.Len TYok | exact QX.Idx TYok | exact QCd (c1) | exact QCd (c2)); exact rfl) | refine SX.Box TYok (h := ?_) | refine SC ?_ | (apply S_isnil TYok; exact rfl; exact rfl; exact rfl; exact Ev.auto; intro bn hnil) | (apply RG.gT; exact rfl; exact rfl; (first | assumption | decide)) | (apply RG.gF; exact rfl; exact rfl; (first | assumption | decide | (rw [ne_eq, Bool.not_eq_true]; assumption) | (rw [ne_eq, Bool.not_eq_false]; assumption)); exact rfl) | (apply W.draw2 (id := 6) [0, 1, 0, 7, 15, 0, 63, 127] [[2], [37], [5], [38, 39], [40], [3], [41, 42], [43]] 8 [(37, 4), (38, 137438953472), (39, 32), (40, 824633720832), (41, 1099511627776), (42, 8), (43, 6597069766656), (44, 8796093022208)] mixed (by kernel_rfl) rfl rfl) | (refine W.condA (ht := fun hb => ?_) (hf := fun hb => ?_) <;> (try simp at hb) <;> (try (exfalso; first | exact hbad hb | omega))))
    all_goals first
      | exact Fin.ret ResL.auto
      | trace_state
  | false =>
    have hbad : (op = 2 ∧ b1 = false) ∨ (op = 3 ∧ b2 = false) → False := fun q => by
      rcases q with ⟨h1, h2⟩ | ⟨h1, h2⟩ <;> subst h1 h2 <;> simp at hc
    refine ACalls.of_W (qs := [cB (!false && l.all (knowF N I))]) [4] 45 Tryz.func12 (by kernel_rfl) rfl rfl rfl fun G => ?_
    refine W.initA (hw := ?_)
    repeat' (first | (refine W.weaken (Le.freeze1 (m := 2) rfl) ?_) | (refine W.weaken (Le.freeze1 (m := 3) rfl) ?_) | ((first | apply U_ | (apply Ug_; exact rfl; exact rfl) | (apply Ugq_; exact rfl; exact rfl) | apply Lex.u | (apply Lex.g; exact rfl; exact rfl) | (apply Lex.gq; exact rfl; exact rfl)); (first | exact QX.B TYok | exact QX.Len TYok | exact QX.Idx TYok | exact QCd (c1) | exact QCd (c2)); exact rfl) | refine SX.Box TYok (h := ?_) | refine SC ?_ | (apply S_isnil TYok; exact rfl; exact rfl; exact rfl; exact Ev.auto; intro bn hnil) | (apply RG.gT; exact rfl; exact rfl; (first | assumption | decide)) | (apply RG.gF; exact rfl; exact rfl; (first | assumption | decide | (rw [ne_eq, Bool.not_eq_true]; assumption) | (rw [ne_eq, Bool.not_eq_false]; assumption)); exact rfl) | (apply W.draw2 (id := 6) [0, 1, 0, 7, 15, 0, 63, 127] [[2], [37], [5], [38, 39], [40], [3], [41, 42], [43]] 8 [(37, 4), (38, 137438953472), (39, 32), (40, 824633720832), (41, 1099511627776), (42, 8), (43, 6597069766656), (44, 8796093022208)] mixed (by kernel_rfl) rfl rfl) | (refine W.condA (ht := fun hb => ?_) (hf := fun hb => ?_) <;> (try simp at hb) <;> (try (exfalso; first | exact hbad hb | omega))))
    apply W.loopP (σ := Nat) 45 [2, 3] (fun k => k ≤ l.length ∧ (l.take k).all (knowF N I) = true) (fun k => [(5, vI k)]) (fun _ => []) (fun k => l.length - k) (0)
    case hp => repeat (first | exact Pick.nil | apply Pick.cons rfl)
    case h0 =>
      refine ⟨by simp, ?_⟩
      exact Le.auto
    case round =>
      rintro k ⟨h1, h2⟩
      apply W.norm (by repeat (first | exact App.nil | apply App.cons))
      by_cases hk : k < l.length
      · have hi := ih _ (nth_mem hk) (h _ (nth_mem hk))
        simp only at hi
        cases hz : knowF N I (nth l k) with
        | false =>
          rw [hz] at hi
          rw [all_noK hk hz]
          repeat' (first | ((first | apply U_ | (apply Ug_; exact rfl; exact rfl) | (apply Ugq_; exact rfl; exact rfl) | apply Lex.u | (apply Lex.g; exact rfl; exact rfl) | (apply Lex.gq; exact rfl; exact rfl)); (first | exact QX.B TYok | exact QX.Len TYok | exact QX.Idx TYok | exact QCd (hi)); exact rfl) | refine SX.Box TYok (h := ?_) | refine SC ?_ | (apply S_isnil TYok; exact rfl; exact rfl; exact rfl; exact Ev.auto; intro bn hnil) | (apply RG.gT; exact rfl; exact rfl; (first | assumption | decide)) | (apply RG.gF; exact rfl; exact rfl; (first | assumption | decide | (rw [ne_eq, Bool.not_eq_true]; assumption) | (rw [ne_eq, Bool.not_eq_false]; assumption)); exact rfl) | (apply W.draw2 (id := 6) [0, 1, 0, 7, 15, 0, 63, 127] [[2], [37], [5], [38, 39], [40], [3], [41, 42], [43]] 8 [(37, 4), (38, 137438953472), (39, 32), (40, 824633720832), (41, 1099511627776), (42, 8), (43, 6597069766656), (44, 8796093022208)] mixed (by kernel_rfl) rfl rfl) | (refine W.condA (ht := fun hb => ?_) (hf := fun hb => ?_) <;> (try simp at hb) <;> (try (exfalso; omega))))
          all_goals first
            | exact Fin.ret ResL.auto
            | (exfalso; omega)
            | trace_state
        | true =>
          rw [hz] at hi
          repeat' (first | ((first | apply U_ | (apply Ug_; exact rfl; exact rfl) | (apply Ugq_; exact rfl; exact rfl) | apply Lex.u | (apply Lex.g; exact rfl; exact rfl) | (apply Lex.gq; exact rfl; exact rfl)); (first | exact QX.B TYok | exact QX.Len TYok | exact QX.Idx TYok | exact QCd (hi)); exact rfl) | refine SX.Box TYok (h := ?_) | refine SC ?_ | (apply S_isnil TYok; exact rfl; exact rfl; exact rfl; exact Ev.auto; intro bn hnil) | (apply RG.gT; exact rfl; exact rfl; (first | assumption | decide)) | (apply RG.gF; exact rfl; exact rfl; (first | assumption | decide | (rw [ne_eq, Bool.not_eq_true]; assumption) | (rw [ne_eq, Bool.not_eq_false]; assumption)); exact rfl) | (apply W.draw2 (id := 6) [0, 1, 0, 7, 15, 0, 63, 127] [[2], [37], [5], [38, 39], [40], [3], [41, 42], [43]] 8 [(37, 4), (38, 137438953472), (39, 32), (40, 824633720832), (41, 1099511627776), (42, 8), (43, 6597069766656), (44, 8796093022208)] mixed (by kernel_rfl) rfl rfl) | (refine W.condA (ht := fun hb => ?_) (hf := fun hb => ?_) <;> (try simp at hb) <;> (try (exfalso; omega))))
          all_goals first
            | (refine ⟨k + 1, ⟨by omega, by rw [all_takeK hk, h2, hz]; rfl⟩, ?_, by (try simp only); omega⟩; exact Le.auto)
            | (exfalso; omega)
            | trace_state
      · obtain rfl : k = l.length := by omega
        rw [List.take_length] at h2
        rw [h2]
        repeat' (first | ((first | apply U_ | (apply Ug_; exact rfl; exact rfl) | (apply Ugq_; exact rfl; exact rfl) | apply Lex.u | (apply Lex.g; exact rfl; exact rfl) | (apply Lex.gq; exact rfl; exact rfl)); (first | exact QX.B TYok | exact QX.Len TYok | exact QX.Idx TYok); exact rfl) | refine SX.Box TYok (h := ?_) | refine SC ?_ | (apply S_isnil TYok; exact rfl; exact rfl; exact rfl; exact Ev.auto; intro bn hnil) | (apply RG.gT; exact rfl; exact rfl; (first | assumption | decide)) | (apply RG.gF; exact rfl; exact rfl; (first | assumption | decide | (rw [ne_eq, Bool.not_eq_true]; assumption) | (rw [ne_eq, Bool.not_eq_false]; assumption)); exact rfl) | (apply W.draw2 (id := 6) [0, 1, 0, 7, 15, 0, 63, 127] [[2], [37], [5], [38, 39], [40], [3], [41, 42], [43]] 8 [(37, 4), (38, 137438953472), (39, 32), (40, 824633720832), (41, 1099511627776), (42, 8), (43, 6597069766656), (44, 8796093022208)] mixed (by kernel_rfl) rfl rfl) | (refine W.condA (ht := fun hb => ?_) (hf := fun hb => ?_) <;> (try simp at hb) <;> (try (exfalso; omega))))
        all_goals exact Fin.ret ResL.auto
end
end Go.Proofs.YtjedkgogjehigaaGreat
end
section
set_option linter.unusedVariables false
set_option linter.unusedSimpArgs false
set_option maxHeartbeats 8000000
set_option linter.unusedSectionVars false
namespace Go.Proofs.YtjedkgogjehigaaGreat
open Lf Go
attribute [local irreducible] PureOp EffOp Ev RG W Then InBlock Lf.Fin nth App InitE Pick SubE EvL EvD EvP EvR ResL Lf.Lex SubR SubBR RA RAll EvC FinO FinM ResM ResD FinS val pw digs trimL
section
mutual
def nodesF : Exp → Int → Int
  | .mk _ _ _ _ l, m => nodesG l 1 m
def nodesG : List Exp → Int → Int → Int
  | [], a, _ => a
  | e :: r, a, m => if a ≤ m then nodesG r (a + nodesF e (m - a)) m else a
end
theorem nodesF_bd (e : Exp) : ∀ m, 1 ≤ nodesF e m ∧ nodesF e m ≤ max m 0 + 1 := by
  refine Exp.ind (P := fun e => ∀ m, 1 ≤ nodesF e m ∧ nodesF e m ≤ max m 0 + 1) (fun op n u s l ih m => ?_) e
  rw [nodesF]
  have key : ∀ (l : List Exp), (∀ x ∈ l, ∀ m, 1 ≤ nodesF x m ∧ nodesF x m ≤ max m 0 + 1) → ∀ a, 1 ≤ a → a ≤ max m 0 + 1 → 1 ≤ nodesG l a m ∧ nodesG l a m ≤ max m 0 + 1 := by
    intro l
    induction l with
    | nil => intro _ a h1 h2; rw [nodesG]; exact ⟨h1, h2⟩
    | cons x r ih2 =>
      intro hx a h1 h2
      rw [nodesG]
      split
      · have := hx x (by simp) (m - a)
        exact ih2 (fun y hy => hx y (List.mem_cons_of_mem _ hy)) _ (by omega) (by omega)
      · exact ⟨h1, h2⟩
  exact key l ih 1 (by omega) (by omega)
theorem nodes_ok (e : Exp) : OkE e → ∀ m : Int, 0 ≤ m + 1 → m ≤ 1000 → ACalls Tryz.prog 35 [aE e, cI m] (.pv (cI (nodesF e m))) := by
  refine Exp.ind (P := fun e => OkE e → ∀ m : Int, 0 ≤ m + 1 → m ≤ 1000 → ACalls Tryz.prog 35 [aE e, cI m] (.pv (cI (nodesF e m)))) (fun op n u s l ih he m h0 h1 => ?_) e
  cases he with
  | mk hs hl h =>
  rw [aE_mk, nodesF]
  refine ACalls.of_W (qs := [cI (nodesG l 1 m)]) [4] 31 Tryz.func35 (by kernel_rfl) rfl rfl rfl fun G => ?_
  refine W.initA (hw := ?_)
  repeat' (first | ((first | apply U_ | (apply Ug_; exact rfl; exact rfl) | (apply Ugq_; exact rfl; exact rfl)); (first | exact QX.B TYok | exact QX.Len TYok | exact QX.Idx TYok); exact rfl) | refine SX.Box TYok (h := ?_) | refine SC ?_ | (apply RG.gT; exact rfl; exact rfl; (first | assumption | decide)) | (apply RG.gF; exact rfl; exact rfl; (first | assumption | decide | (rw [ne_eq, Bool.not_eq_true]; assumption) | (rw [ne_eq, Bool.not_eq_false]; assumption)); exact rfl) | (refine W.condA (ht := fun hb => ?_) (hf := fun hb => ?_) <;> (try simp at hb) <;> (try (exfalso; omega))))
  apply W.loopP (σ := Nat × Int) 31 [1, 2] (fun (k, a) => k ≤ l.length ∧ (1 ≤ a ∧ a ≤ max m 0 + 1) ∧ nodesG (l.drop k) a m = nodesG l 1 m) (fun (k, a) => [(5, vI a), (6, vI k)]) (fun _ => [(2, ⟨25, 5, [[.int .i64 op, .int .i64 n, .int .i64 u, .str s, .sl (l.map encX)]]⟩)]) (fun (k, a) => l.length - k) ((0, 1))
  case hp => repeat (first | exact Pick.nil | apply Pick.cons rfl)
  case h0 =>
    refine ⟨⟨by simp, by omega, rfl⟩, ?_⟩
    exact Le.auto
  case round =>
    rintro ⟨k, a⟩ ⟨g1, g2, g3⟩
    apply W.norm (by repeat (first | exact App.nil | apply App.cons))
    by_cases hk : k < l.length
    · rw [drop_nth hk, nodesG] at g3
      by_cases ha : a ≤ m
      · rw [if_pos ha] at g3
        have hi := ih _ (nth_mem hk) (h _ (nth_mem hk)) (m - a) (by omega) (by omega)
        have hb2 := nodesF_bd (nth l k) (m - a)
        generalize nodesF (nth l k) (m - a) = N at *
        repeat' (first | ((first | apply U_ | (apply Ug_; exact rfl; exact rfl) | (apply Ugq_; exact rfl; exact rfl)); (first | exact QX.B TYok | exact QX.Len TYok | exact QX.Idx TYok | exact QCd (hi)); exact rfl) | refine SX.Box TYok (h := ?_) | refine SC ?_ | (apply RG.gT; exact rfl; exact rfl; (first | assumption | decide)) | (apply RG.gF; exact rfl; exact rfl; (first | assumption | decide | (rw [ne_eq, Bool.not_eq_true]; assumption) | (rw [ne_eq, Bool.not_eq_false]; assumption)); exact rfl) | (refine W.condA (ht := fun hb => ?_) (hf := fun hb => ?_) <;> (try simp at hb) <;> (try (exfalso; omega))))
        all_goals first
          | (refine ⟨(k + 1, a + N), ⟨by omega, by omega, g3⟩, ?_, by (first | omega | (simp only; omega))⟩; (try dsimp only); exact Le.auto)
          | (exfalso; omega)
          | trace_state
      · rw [if_neg ha] at g3
        rw [← g3]
        repeat' (first | ((first | apply U_ | (apply Ug_; exact rfl; exact rfl) | (apply Ugq_; exact rfl; exact rfl)); (first | exact QX.B TYok | exact QX.Len TYok | exact QX.Idx TYok); exact rfl) | refine SX.Box TYok (h := ?_) | refine SC ?_ | (apply RG.gT; exact rfl; exact rfl; (first | assumption | decide)) | (apply RG.gF; exact rfl; exact rfl; (first | assumption | decide | (rw [ne_eq, Bool.not_eq_true]; assumption) | (rw [ne_eq, Bool.not_eq_false]; assumption)); exact rfl) | (refine W.condA (ht := fun hb => ?_) (hf := fun hb => ?_) <;> (try simp at hb) <;> (try (exfalso; omega))))
        all_goals exact Fin.ret ResL.auto
    · obtain rfl : k = l.length := by omega
      rw [List.drop_length, nodesG] at g3
      rw [← g3]
      repeat' (first | ((first | apply U_ | (apply Ug_; exact rfl; exact rfl) | (apply Ugq_; exact rfl; exact rfl)); (first | exact QX.B TYok | exact QX.Len TYok | exact QX.Idx TYok); exact rfl) | refine SX.Box TYok (h := ?_) | refine SC ?_ | (apply RG.gT; exact rfl; exact rfl; (first | assumption | decide)) | (apply RG.gF; exact rfl; exact rfl; (first | assumption | decide | (rw [ne_eq, Bool.not_eq_true]; assumption) | (rw [ne_eq, Bool.not_eq_false]; assumption)); exact rfl) | (refine W.condA (ht := fun hb => ?_) (hf := fun hb => ?_) <;> (try simp at hb) <;> (try (exfalso; omega))))
      all_goals exact Fin.ret ResL.auto
mutual
def shortF : Exp → Bool
  | .mk _ _ _ s l => shortFs l && decide ((s.length : Int) ≤ 40)
def shortFs : List Exp → Bool
  | [] => true
  | e :: r => shortF e && shortFs r
end
theorem shortFs_all : ∀ l, shortFs l = l.all shortF
  | [] => rfl
  | e :: r => by rw [shortFs, shortFs_all r]; rfl
theorem all_takeE {l : List Exp} {p : Exp → Bool} {k : Nat} (h : k < l.length) : (l.take (k + 1)).all p = ((l.take k).all p && p (nth l k)) := by
  rw [take_nth h]; simp
theorem shortE_ok (e : Exp) : OkE e → ACalls Tryz.prog 36 [aE e] (.pv (cB (shortF e))) := by
  refine Exp.ind (P := fun e => OkE e → ACalls Tryz.prog 36 [aE e] (.pv (cB (shortF e)))) (fun op n u s l ih he => ?_) e
  cases he with
  | mk hs hl h =>
  rw [aE_mk, shortF, shortFs_all]
  refine ACalls.of_W (qs := [cB (l.all shortF && decide ((s.length : Int) ≤ 40))]) [2] 22 Tryz.func36 (by kernel_rfl) rfl rfl rfl fun G => ?_
  refine W.initA (hw := ?_)
  repeat' (first | ((first | apply U_); (first | exact QX.B TYok | exact QX.Len TYok | exact QX.Idx TYok); exact rfl) | refine SX.Box TYok (h := ?_) | refine SC ?_ | (refine W.condA (ht := fun hb => ?_) (hf := fun hb => ?_) <;> (try simp at hb) <;> (try (exfalso; omega))))
  apply W.loopP (σ := Nat) 22 [1] (fun k => k ≤ l.length ∧ (l.take k).all shortF = true) (fun k => [(3, vI k)]) (fun _ => [(1, ⟨25, 5, [[.int .i64 op, .int .i64 n, .int .i64 u, .str s, .sl (l.map encX)]]⟩)]) (fun k => l.length - k) (0)
  case hp => repeat (first | exact Pick.nil | apply Pick.cons rfl)
  case h0 =>
    refine ⟨by simp, ?_⟩
    exact Le.auto
  case round =>
    rintro k ⟨h1, h2⟩
    apply W.norm (by repeat (first | exact App.nil | apply App.cons))
    by_cases hk : k < l.length
    · have hi := ih _ (nth_mem hk) (h _ (nth_mem hk))
      cases hc : shortF (nth l k) with
      | false =>
        rw [hc] at hi
        have e : l.all shortF = false := by
          rw [← Bool.not_eq_true, List.all_eq_true]; intro hx; rw [hx _ (nth_mem hk)] at hc; cases hc
        rw [e]
        repeat' (first | ((first | apply U_); (first | exact QX.B TYok | exact QX.Len TYok | exact QX.Idx TYok | exact QCd (hi)); exact rfl) | refine SX.Box TYok (h := ?_) | refine SC ?_ | (refine W.condA (ht := fun hb => ?_) (hf := fun hb => ?_) <;> (try simp at hb) <;> (try (exfalso; omega))))
        all_goals exact Fin.ret ResL.auto
      | true =>
        rw [hc] at hi
        repeat' (first | ((first | apply U_); (first | exact QX.B TYok | exact QX.Len TYok | exact QX.Idx TYok | exact QCd (hi)); exact rfl) | refine SX.Box TYok (h := ?_) | refine SC ?_ | (refine W.condA (ht := fun hb => ?_) (hf := fun hb => ?_) <;> (try simp at hb) <;> (try (exfalso; omega))))
        all_goals first
          | (refine ⟨k + 1, ⟨by omega, by rw [all_takeE hk, h2, hc]; rfl⟩, ?_, by (try simp only); omega⟩; exact Le.auto)
          | (exfalso; omega)
          | trace_state
    · obtain rfl : k = l.length := by omega
      rw [List.take_length] at h2
      rw [h2]
      repeat' (first | ((first | apply U_); (first | exact QX.B TYok | exact QX.Len TYok | exact QX.Idx TYok); exact rfl) | refine SX.Box TYok (h := ?_) | refine SC ?_ | (refine W.condA (ht := fun hb => ?_) (hf := fun hb => ?_) <;> (try simp at hb) <;> (try (exfalso; omega))))
      all_goals exact Fin.ret ResL.auto
def fewE (e : Exp) (m : Int) : Bool := decide (nodesF e m ≤ m) && shortF e
theorem fewE_ok (e : Exp) (he : OkE e) (m : Int) (h0 : 0 ≤ m) (h1 : m ≤ 1000) : ACalls Tryz.prog 18 [aE e, cI m] (.pv (cB (fewE e m))) := by
  have c1 := nodes_ok e he m (by omega) h1
  have c2 := shortE_ok e he
  unfold fewE
  generalize nodesF e m = N at *
  generalize shortF e = b at *
  obtain ⟨op, k, u, s, l⟩ := e
  by_cases hN : N ≤ m
  · rw [decide_eq_true hN]
    refine ACalls.of_W (qs := [cB (true && b)]) [4] 12 Tryz.func18 (by kernel_rfl) rfl rfl rfl fun G => ?_
    refine W.initA (hw := ?_)
    repeat' (first | ((first | apply U_); (first | exact QX.B TYok | exact QCd (c1) | exact QCd (c2)); exact rfl) | refine SX.Box TYok (h := ?_) | refine SC ?_ | (refine W.condA (ht := fun hb => ?_) (hf := fun hb => ?_) <;> (try simp at hb) <;> (try (exfalso; omega))))
    all_goals exact Fin.ret ResL.auto
  · rw [decide_eq_false hN]
    refine ACalls.of_W (qs := [cB (false && b)]) [4] 12 Tryz.func18 (by kernel_rfl) rfl rfl rfl fun G => ?_
    refine W.initA (hw := ?_)
    repeat' (first | ((first | apply U_); (first | exact QX.B TYok | exact QCd (c1) | exact QCd (c2)); exact rfl) | refine SX.Box TYok (h := ?_) | refine SC ?_ | (refine W.condA (ht := fun hb => ?_) (hf := fun hb => ?_) <;> (try simp at hb) <;> (try (exfalso; omega))))
    all_goals exact Fin.ret ResL.auto
def fewL1 (y : Let) : Bool := fewE y.body 11 && decide ((y.name.length : Int) ≤ 40)
def fewL (lets : List Let) : Bool := decide ((lets.length : Int) ≤ 3) && lets.all fewL1
theorem all_takeL {α : Type} [Inhabited α] {l : List α} {p : α → Bool} {k : Nat} (h : k < l.length) : (l.take (k + 1)).all p = ((l.take k).all p && p (nth l k)) := by
  rw [take_nth h]; simp
theorem all_no {α : Type} [Inhabited α] {l : List α} {p : α → Bool} {k : Nat} (hk : k < l.length) (h : p (nth l k) = false) : l.all p = false := by
  rw [← Bool.not_eq_true, List.all_eq_true]; intro hx; rw [hx _ (nth_mem hk)] at h; cases h
theorem fewL_ok {lets : List Let} (hl : LIn lets) : ACalls Tryz.prog 17 [slL lets] (.pv (cB (fewL lets))) := by
  have hlen := hl.len
  unfold fewL
  refine ACalls.of_W (qs := [cB (decide ((lets.length : Int) ≤ 3) && lets.all fewL1)]) [2] 33 Tryz.func17 (by kernel_rfl) rfl rfl rfl fun G => ?_
  refine W.initA (hw := ?_)
  repeat' (first | ((first | apply U_ | (apply Ug_; exact rfl; exact rfl) | (apply Ugq_; exact rfl; exact rfl)); (first | exact QX.B TYok | exact QX.Len TYok | exact QX.Idx TYok); exact rfl) | refine SC ?_ | (apply RG.gT; exact rfl; exact rfl; (first | assumption | decide)) | (apply RG.gF; exact rfl; exact rfl; (first | assumption | decide | (rw [ne_eq, Bool.not_eq_true]; assumption) | (rw [ne_eq, Bool.not_eq_false]; assumption)); exact rfl) | (refine W.condA (ht := fun hb => ?_) (hf := fun hb => ?_) <;> (try simp at hb) <;> (try (exfalso; omega))))
  apply W.loopP (σ := Nat) 33 [0] (fun k => k ≤ lets.length ∧ k ≤ 4 ∧ (lets.take k).all fewL1 = true) (fun k => [(3, vI k)]) (fun _ => []) (fun k => lets.length - k) (0)
  case hp => repeat (first | exact Pick.nil | apply Pick.cons rfl)
  case h0 =>
    refine ⟨by simp, ?_⟩
    exact Le.auto
  case round =>
    rintro k ⟨h1, h3, h2⟩
    apply W.norm (by repeat (first | exact App.nil | apply App.cons))
    by_cases hk : k < lets.length ∧ k < 4
    · have hi := fewE_ok (nth lets k).body (hl.ok _ (nth_mem hk.1)) 11 (by omega) (by omega)
      have hdef : fewL1 (nth lets k) = (fewE (nth lets k).body 11 && decide (((nth lets k).name.length : Int) ≤ 40)) := rfl
      by_cases hc : fewL1 (nth lets k) = true
      · have hc2 := hc
        rw [hdef, Bool.and_eq_true, decide_eq_true_iff] at hc2
        rw [hc2.1] at hi
        repeat' (first | ((first | apply U_ | (apply Ug_; exact rfl; exact rfl) | (apply Ugq_; exact rfl; exact rfl)); (first | exact QX.B TYok | exact QX.Len TYok | exact QX.Idx TYok | exact QCd (hi)); exact rfl) | refine SC ?_ | (apply RG.gT; exact rfl; exact rfl; (first | assumption | decide)) | (apply RG.gF; exact rfl; exact rfl; (first | assumption | decide | (rw [ne_eq, Bool.not_eq_true]; assumption) | (rw [ne_eq, Bool.not_eq_false]; assumption)); exact rfl) | (refine W.condA (ht := fun hb => ?_) (hf := fun hb => ?_) <;> (try simp at hb) <;> (try (exfalso; omega))))
        all_goals first
          | (refine ⟨k + 1, ⟨by omega, by omega, by rw [all_takeL hk.1, h2, hc]; rfl⟩, ?_, by (try simp only); omega⟩; exact Le.auto)
          | (exfalso; omega)
          | (exfalso; have := hc2.2; simp_all; omega)
          | trace_state
      · rw [Bool.not_eq_true] at hc
        rw [all_no hk.1 hc, Bool.and_false]
        rw [hdef] at hc
        generalize fewE (nth lets k).body 11 = b at *
        have hbad : b = true ∧ ((nth lets k).name.length : Int) ≤ 40 → False := fun q => by
          rw [q.1, decide_eq_true q.2] at hc; cases hc
        repeat' (first | ((first | apply U_ | (apply Ug_; exact rfl; exact rfl) | (apply Ugq_; exact rfl; exact rfl)); (first | exact QX.B TYok | exact QX.Len TYok | exact QX.Idx TYok | exact QCd (hi)); exact rfl) | refine SC ?_ | (apply RG.gT; exact rfl; exact rfl; (first | assumption | decide)) | (apply RG.gF; exact rfl; exact rfl; (first | assumption | decide | (rw [ne_eq, Bool.not_eq_true]; assumption) | (rw [ne_eq, Bool.not_eq_false]; assumption)); exact rfl) | (refine W.condA (ht := fun hb => ?_) (hf := fun hb => ?_) <;> (try simp at hb) <;> (try (exfalso; first | exact hbad hb | omega))))
        all_goals first
          | exact Fin.ret ResL.auto
          | (exfalso; omega)
          | trace_state
    · by_cases h4 : lets.length ≤ 3
      · obtain rfl : k = lets.length := by omega
        rw [List.take_length] at h2
        rw [h2, decide_eq_true (by omega)]
        repeat' (first | ((first | apply U_ | (apply Ug_; exact rfl; exact rfl) | (apply Ugq_; exact rfl; exact rfl)); (first | exact QX.B TYok | exact QX.Len TYok | exact QX.Idx TYok); exact rfl) | refine SC ?_ | (apply RG.gT; exact rfl; exact rfl; (first | assumption | decide)) | (apply RG.gF; exact rfl; exact rfl; (first | assumption | decide | (rw [ne_eq, Bool.not_eq_true]; assumption) | (rw [ne_eq, Bool.not_eq_false]; assumption)); exact rfl) | (refine W.condA (ht := fun hb => ?_) (hf := fun hb => ?_) <;> (try simp at hb) <;> (try (exfalso; omega))))
        all_goals first
          | exact Fin.retB rfl (by simp; omega)
          | (exfalso; omega)
          | trace_state
      · rw [decide_eq_false (by omega), Bool.false_and]
        repeat' (first | ((first | apply U_ | (apply Ug_; exact rfl; exact rfl) | (apply Ugq_; exact rfl; exact rfl)); (first | exact QX.B TYok | exact QX.Len TYok | exact QX.Idx TYok); exact rfl) | refine SC ?_ | (apply RG.gT; exact rfl; exact rfl; (first | assumption | decide)) | (apply RG.gF; exact rfl; exact rfl; (first | assumption | decide | (rw [ne_eq, Bool.not_eq_true]; assumption) | (rw [ne_eq, Bool.not_eq_false]; assumption)); exact rfl) | (refine W.condA (ht := fun hb => ?_) (hf := fun hb => ?_) <;> (try simp at hb) <;> (try (exfalso; omega))))
        all_goals first
          | exact Fin.ret (ResL.cons rfl rfl (PSub.of_eq (by rw [decide_eq_false (by omega)])) ResL.nil)
          | (exfalso; omega)
          | trace_state
end
end Go.Proofs.YtjedkgogjehigaaGreat
end
section
set_option linter.unusedVariables false
set_option linter.unusedSimpArgs false
set_option maxHeartbeats 8000000
set_option linter.unusedSectionVars false
namespace Go.Proofs.YtjedkgogjehigaaGreat
open Lf Go
attribute [local irreducible] PureOp EffOp Ev RG W Then InBlock Lf.Fin nth App InitE Pick SubE EvL EvD EvP EvR ResL Lf.Lex SubR SubBR RA RAll EvC FinO FinM ResM ResD FinS val pw digs trimL
section
def fewQ (q : Fq) : Bool := decide ((q.d.length : Int) ≤ 3) && decide ((q.d'.length : Int) ≤ 3)
def fewS (s : Str) : Bool := decide ((s.length : Int) ≤ 40)
theorem fewQ_ok (q : Fq) : ACalls Tryz.prog 37 [fqV q, cI 3] (.pv (cB (fewQ q))) := by
  obtain ⟨s, d, s', d'⟩ := q
  unfold fewQ
  refine ACalls.of_W (qs := [cB (decide ((d.length : Int) ≤ 3) && decide ((d'.length : Int) ≤ 3))]) [4] 19 Tryz.func37 (by kernel_rfl) rfl rfl rfl fun G => ?_
  refine W.initA (hw := ?_)
  repeat' (first | ((first | apply U_ | (apply Ug_; exact rfl; exact rfl) | (apply Ugq_; exact rfl; exact rfl)); (first | exact QX.B TYok | exact QX.Len TYok); exact rfl) | refine SX.Box TYok (h := ?_) | refine SC ?_ | (apply RG.gT; exact rfl; exact rfl; (first | assumption | decide)) | (apply RG.gF; exact rfl; exact rfl; (first | assumption | decide | (rw [ne_eq, Bool.not_eq_true]; assumption) | (rw [ne_eq, Bool.not_eq_false]; assumption)); exact rfl) | (refine W.condA (ht := fun hb => ?_) (hf := fun hb => ?_) <;> (try simp at hb) <;> (try (exfalso; omega))))
  all_goals exact Fin.ret ResL.auto
def lens8 (v : EnvV) : Prop := v.names.length ≤ 8 ∧ v.vals.length ≤ 8 ∧ v.iss.length ≤ 8 ∧ v.rates.length ≤ 8
instance (v : EnvV) : Decidable (lens8 v) := by unfold lens8; infer_instance
def fewV (v : EnvV) : Bool := ((decide (lens8 v) && v.vals.all fewQ) && v.rates.all fewQ) && (v.names ++ v.iss).all fewS
theorem nth_app {α : Type} [Inhabited α] {a b : List α} {k : Nat} (h : k < (a ++ b).length) : nth (a ++ b) k = if k < a.length then nth a k else nth b (k - a.length) := by
  rw [nth, List.getD_eq_getElem?_getD]
  split
  · rename_i h1
    rw [List.getElem?_append_left h1, nth, List.getD_eq_getElem?_getD]
  · rename_i h1
    rw [List.getElem?_append_right (by omega), nth, List.getD_eq_getElem?_getD]
theorem fewV_ok (v : EnvV) (hv : v.Len) : ACalls Tryz.prog 19 [vV v] (.pv (cB (fewV v))) := by
  have hq := fewQ_ok
  obtain ⟨h1, h2, h3, h4, _, _⟩ := hv
  obtain ⟨N, V, I, R⟩ := v
  simp only at h1 h2 h3 h4
  by_cases h8 : lens8 ⟨N, V, I, R⟩
  case neg =>
    have e : fewV ⟨N, V, I, R⟩ = false := by unfold fewV; rw [decide_eq_false h8]; rfl
    unfold lens8 at h8
    simp only at h8
    rw [e]
    refine ACalls.of_W (qs := [cB false]) [2] 90 Tryz.func19 (by kernel_rfl) rfl rfl rfl fun G => ?_
    refine W.initA (hw := ?_)
    repeat' (first | ((first | apply U_ | (apply Ug_; exact rfl; exact rfl) | (apply Ugq_; exact rfl; exact rfl)); (first | exact QX.B TYok | exact QX.Len TYok | exact QX.Idx TYok); exact rfl) | refine SX.Box TYok (h := ?_) | refine SC ?_ | (apply RG.gT; exact rfl; exact rfl; (first | assumption | decide)) | (apply RG.gF; exact rfl; exact rfl; (first | assumption | decide | (rw [ne_eq, Bool.not_eq_true]; assumption) | (rw [ne_eq, Bool.not_eq_false]; assumption)); exact rfl) | (refine W.condA (ht := fun hb => ?_) (hf := fun hb => ?_) <;> (try simp at hb) <;> (try (exfalso; omega))))
    all_goals first
      | exact Fin.ret ResL.auto
      | (exfalso; omega)
      | trace_state
  have e0 : fewV ⟨N, V, I, R⟩ = ((V.all fewQ && R.all fewQ) && (N ++ I).all fewS) := by unfold fewV; rw [decide_eq_true h8, Bool.true_and]
  unfold lens8 at h8
  simp only at h8
  rw [e0]
  refine ACalls.of_W (qs := [cB ((V.all fewQ && R.all fewQ) && (N ++ I).all fewS)]) [2] 90 Tryz.func19 (by kernel_rfl) rfl rfl rfl fun G => ?_
  refine W.initA (hw := ?_)
  repeat' (first | ((first | apply U_ | (apply Ug_; exact rfl; exact rfl) | (apply Ugq_; exact rfl; exact rfl)); (first | exact QX.B TYok | exact QX.Len TYok | exact QX.Idx TYok); exact rfl) | refine SX.Box TYok (h := ?_) | refine SC ?_ | (apply RG.gT; exact rfl; exact rfl; (first | assumption | decide)) | (apply RG.gF; exact rfl; exact rfl; (first | assumption | decide | (rw [ne_eq, Bool.not_eq_true]; assumption) | (rw [ne_eq, Bool.not_eq_false]; assumption)); exact rfl) | (refine W.condA (ht := fun hb => ?_) (hf := fun hb => ?_) <;> (try simp at hb) <;> (try (exfalso; omega))))
  apply W.loopP (σ := Nat) 90 [1] (fun k => k ≤ V.length ∧ (V.take k).all fewQ = true) (fun k => [(3, vI k)]) (fun _ => [(1, ⟨29, 4, [[.sl (N.map encS), .sl (V.map encF), .sl (I.map encS), .sl (R.map encF)]]⟩)]) (fun k => V.length - k) (0)
  case hp => repeat (first | exact Pick.nil | apply Pick.cons rfl)
  case h0 =>
    refine ⟨by simp, ?_⟩
    exact Le.auto
  case round =>
    rintro k ⟨g1, g2⟩
    apply W.norm (by repeat (first | exact App.nil | apply App.cons))
    by_cases hk : k < V.length
    · have hi := hq (nth V k)
      cases hc : fewQ (nth V k) with
      | false =>
        rw [hc] at hi
        rw [all_no hk hc, Bool.false_and, Bool.false_and]
        repeat' (first | ((first | apply U_ | (apply Ug_; exact rfl; exact rfl) | (apply Ugq_; exact rfl; exact rfl)); (first | exact QX.B TYok | exact QX.Len TYok | exact QX.Idx TYok | exact QCd (hi)); exact rfl) | refine SX.Box TYok (h := ?_) | refine SC ?_ | (apply RG.gT; exact rfl; exact rfl; (first | assumption | decide)) | (apply RG.gF; exact rfl; exact rfl; (first | assumption | decide | (rw [ne_eq, Bool.not_eq_true]; assumption) | (rw [ne_eq, Bool.not_eq_false]; assumption)); exact rfl) | (refine W.condA (ht := fun hb => ?_) (hf := fun hb => ?_) <;> (try simp at hb) <;> (try (exfalso; omega))))
        all_goals first
          | exact Fin.ret ResL.auto
          | (exfalso; omega)
          | trace_state
      | true =>
        rw [hc] at hi
        repeat' (first | ((first | apply U_ | (apply Ug_; exact rfl; exact rfl) | (apply Ugq_; exact rfl; exact rfl)); (first | exact QX.B TYok | exact QX.Len TYok | exact QX.Idx TYok | exact QCd (hi)); exact rfl) | refine SX.Box TYok (h := ?_) | refine SC ?_ | (apply RG.gT; exact rfl; exact rfl; (first | assumption | decide)) | (apply RG.gF; exact rfl; exact rfl; (first | assumption | decide | (rw [ne_eq, Bool.not_eq_true]; assumption) | (rw [ne_eq, Bool.not_eq_false]; assumption)); exact rfl) | (refine W.condA (ht := fun hb => ?_) (hf := fun hb => ?_) <;> (try simp at hb) <;> (try (exfalso; omega))))
        all_goals first
          | (refine ⟨k + 1, ⟨by omega, by rw [all_takeL hk, g2, hc]; rfl⟩, ?_, by (try simp only); omega⟩; exact Le.auto)
          | (exfalso; omega)
          | trace_state
    obtain rfl : k = V.length := by omega
    rw [List.take_length] at g2
    rw [g2, Bool.true_and]
    repeat' (first | ((first | apply U_ | (apply Ug_; exact rfl; exact rfl) | (apply Ugq_; exact rfl; exact rfl)); (first | exact QX.B TYok | exact QX.Len TYok | exact QX.Idx TYok); exact rfl) | refine SX.Box TYok (h := ?_) | refine SC ?_ | (apply RG.gT; exact rfl; exact rfl; (first | assumption | decide)) | (apply RG.gF; exact rfl; exact rfl; (first | assumption | decide | (rw [ne_eq, Bool.not_eq_true]; assumption) | (rw [ne_eq, Bool.not_eq_false]; assumption)); exact rfl) | (refine W.condA (ht := fun hb => ?_) (hf := fun hb => ?_) <;> (try simp at hb) <;> (try (exfalso; omega))))
    apply W.loopP (σ := Nat) 90 [1] (fun k => k ≤ R.length ∧ (R.take k).all fewQ = true) (fun k => [(4, vI k)]) (fun _ => [(1, ⟨29, 4, [[.sl (N.map encS), .sl (V.map encF), .sl (I.map encS), .sl (R.map encF)]]⟩)]) (fun k => R.length - k) (0)
    case hp => repeat (first | exact Pick.nil | apply Pick.cons rfl)
    case h0 =>
      refine ⟨by simp, ?_⟩
      exact Le.auto
    case round =>
      rintro k ⟨r1, r2⟩
      apply W.norm (by repeat (first | exact App.nil | apply App.cons))
      by_cases hk : k < R.length
      · have hi := hq (nth R k)
        cases hc : fewQ (nth R k) with
        | false =>
          rw [hc] at hi
          rw [all_no hk hc, Bool.false_and]
          repeat' (first | ((first | apply U_ | (apply Ug_; exact rfl; exact rfl) | (apply Ugq_; exact rfl; exact rfl)); (first | exact QX.B TYok | exact QX.Len TYok | exact QX.Idx TYok | exact QCd (hi)); exact rfl) | refine SX.Box TYok (h := ?_) | refine SC ?_ | (apply RG.gT; exact rfl; exact rfl; (first | assumption | decide)) | (apply RG.gF; exact rfl; exact rfl; (first | assumption | decide | (rw [ne_eq, Bool.not_eq_true]; assumption) | (rw [ne_eq, Bool.not_eq_false]; assumption)); exact rfl) | (refine W.condA (ht := fun hb => ?_) (hf := fun hb => ?_) <;> (try simp at hb) <;> (try (exfalso; omega))))
          all_goals first
            | exact Fin.ret ResL.auto
            | (exfalso; omega)
            | trace_state
        | true =>
          rw [hc] at hi
          repeat' (first | ((first | apply U_ | (apply Ug_; exact rfl; exact rfl) | (apply Ugq_; exact rfl; exact rfl)); (first | exact QX.B TYok | exact QX.Len TYok | exact QX.Idx TYok | exact QCd (hi)); exact rfl) | refine SX.Box TYok (h := ?_) | refine SC ?_ | (apply RG.gT; exact rfl; exact rfl; (first | assumption | decide)) | (apply RG.gF; exact rfl; exact rfl; (first | assumption | decide | (rw [ne_eq, Bool.not_eq_true]; assumption) | (rw [ne_eq, Bool.not_eq_false]; assumption)); exact rfl) | (refine W.condA (ht := fun hb => ?_) (hf := fun hb => ?_) <;> (try simp at hb) <;> (try (exfalso; omega))))
          all_goals first
            | (refine ⟨k + 1, ⟨by omega, by rw [all_takeL hk, r2, hc]; rfl⟩, ?_, by (try simp only); omega⟩; exact Le.auto)
            | (exfalso; omega)
            | trace_state
      obtain rfl : k = R.length := by omega
      rw [List.take_length] at r2
      rw [r2, Bool.true_and]
      repeat' (first | ((first | apply U_ | (apply Ug_; exact rfl; exact rfl) | (apply Ugq_; exact rfl; exact rfl)); (first | exact QX.B TYok | exact QX.Len TYok | exact QX.Idx TYok); exact rfl) | refine SX.Box TYok (h := ?_) | refine SC ?_ | (apply RG.gT; exact rfl; exact rfl; (first | assumption | decide)) | (apply RG.gF; exact rfl; exact rfl; (first | assumption | decide | (rw [ne_eq, Bool.not_eq_true]; assumption) | (rw [ne_eq, Bool.not_eq_false]; assumption)); exact rfl) | (refine W.condA (ht := fun hb => ?_) (hf := fun hb => ?_) <;> (try simp at hb) <;> (try (exfalso; omega))))
      apply W.loopP (σ := Nat) 90 [1] (fun k => k ≤ (N ++ I).length ∧ ((N ++ I).take k).all fewS = true) (fun k => [(5, vI k)]) (fun _ => [(1, ⟨29, 4, [[.sl (N.map encS), .sl (V.map encF), .sl (I.map encS), .sl (R.map encF)]]⟩)]) (fun k => (N ++ I).length - k) (0)
      case hp => repeat (first | exact Pick.nil | apply Pick.cons rfl)
      case h0 =>
        refine ⟨by simp, ?_⟩
        exact Le.auto
      case round =>
        rintro k ⟨t1, t2⟩
        apply W.norm (by repeat (first | exact App.nil | apply App.cons))
        have hlen : (N ++ I).length = N.length + I.length := List.length_append
        by_cases hk : k < (N ++ I).length
        · have hn := nth_app (a := N) (b := I) hk
          have hidx : ((k : Int) - (N.length : Int)).toNat = k - N.length := by omega
          cases hc : fewS (nth (N ++ I) k) with
          | false =>
            rw [all_no hk hc]
            by_cases hkn : k < N.length
            · rw [if_pos hkn] at hn
              rw [hn] at hc
              have hc' := of_decide_eq_false hc
              repeat' (first | ((first | apply U_ | (apply Ug_; exact rfl; exact rfl) | (apply Ugq_; exact rfl; exact rfl)); (first | exact QX.B TYok | exact QX.Len TYok | exact QX.Idx TYok); exact rfl) | refine SX.Box TYok (h := ?_) | refine SC ?_ | (apply RG.gT; exact rfl; exact rfl; (first | assumption | decide)) | (apply RG.gF; exact rfl; exact rfl; (first | assumption | decide | (rw [ne_eq, Bool.not_eq_true]; assumption) | (rw [ne_eq, Bool.not_eq_false]; assumption)); exact rfl) | (refine W.condA (ht := fun hb => ?_) (hf := fun hb => ?_) <;> (try simp at hb) <;> (try (exfalso; omega))))
              all_goals first
                | exact Fin.ret ResL.auto
                | (exfalso; omega)
                | trace_state
            · rw [if_neg hkn] at hn
              rw [hn] at hc
              have hc' := of_decide_eq_false hc
              have hki : k - N.length < I.length := by omega
              repeat' (first | ((first | apply U_ | (apply Ug_; exact rfl; exact rfl) | (apply Ugq_; exact rfl; exact rfl)); (first | exact QX.B TYok | exact QX.Len TYok | exact QX.Idx TYok); exact rfl) | refine SX.Box TYok (h := ?_) | refine SC ?_ | (apply RG.gT; exact rfl; exact rfl; (first | assumption | decide)) | (apply RG.gF; exact rfl; exact rfl; (first | assumption | decide | (rw [ne_eq, Bool.not_eq_true]; assumption) | (rw [ne_eq, Bool.not_eq_false]; assumption)); exact rfl) | (refine W.condA (ht := fun hb => ?_) (hf := fun hb => ?_) <;> (try simp at hb) <;> (try (exfalso; omega))))
              all_goals first
                | exact Fin.ret ResL.auto
                | (exfalso; omega)
                | trace_state
          | true =>
            have ht : ((N ++ I).take (k + 1)).all fewS = true := by rw [all_takeL hk, t2, hc]; rfl
            by_cases hkn : k < N.length
            · rw [if_pos hkn] at hn
              rw [hn] at hc
              have hc' := of_decide_eq_true hc
              repeat' (first | ((first | apply U_ | (apply Ug_; exact rfl; exact rfl) | (apply Ugq_; exact rfl; exact rfl)); (first | exact QX.B TYok | exact QX.Len TYok | exact QX.Idx TYok); exact rfl) | refine SX.Box TYok (h := ?_) | refine SC ?_ | (apply RG.gT; exact rfl; exact rfl; (first | assumption | decide)) | (apply RG.gF; exact rfl; exact rfl; (first | assumption | decide | (rw [ne_eq, Bool.not_eq_true]; assumption) | (rw [ne_eq, Bool.not_eq_false]; assumption)); exact rfl) | (refine W.condA (ht := fun hb => ?_) (hf := fun hb => ?_) <;> (try simp at hb) <;> (try (exfalso; omega))))
              all_goals first
                | (refine ⟨k + 1, ⟨by omega, ht⟩, ?_, by (try simp only); omega⟩; exact Le.auto)
                | (exfalso; omega)
                | trace_state
            · rw [if_neg hkn] at hn
              rw [hn] at hc
              have hc' := of_decide_eq_true hc
              have hki : k - N.length < I.length := by omega
              repeat' (first | ((first | apply U_ | (apply Ug_; exact rfl; exact rfl) | (apply Ugq_; exact rfl; exact rfl)); (first | exact QX.B TYok | exact QX.Len TYok | exact QX.Idx TYok); exact rfl) | refine SX.Box TYok (h := ?_) | refine SC ?_ | (apply RG.gT; exact rfl; exact rfl; (first | assumption | decide)) | (apply RG.gF; exact rfl; exact rfl; (first | assumption | decide | (rw [ne_eq, Bool.not_eq_true]; assumption) | (rw [ne_eq, Bool.not_eq_false]; assumption)); exact rfl) | (refine W.condA (ht := fun hb => ?_) (hf := fun hb => ?_) <;> (try simp at hb) <;> (try (exfalso; omega))))
              all_goals first
                | (refine ⟨k + 1, ⟨by omega, ht⟩, ?_, by (try simp only); omega⟩; exact Le.auto)
                | (exfalso; omega)
                | trace_state
        obtain rfl : k = (N ++ I).length := by omega
        rw [List.take_length] at t2
        rw [t2]
        repeat' (first | ((first | apply U_ | (apply Ug_; exact rfl; exact rfl) | (apply Ugq_; exact rfl; exact rfl)); (first | exact QX.B TYok | exact QX.Len TYok | exact QX.Idx TYok); exact rfl) | refine SX.Box TYok (h := ?_) | refine SC ?_ | (apply RG.gT; exact rfl; exact rfl; (first | assumption | decide)) | (apply RG.gF; exact rfl; exact rfl; (first | assumption | decide | (rw [ne_eq, Bool.not_eq_true]; assumption) | (rw [ne_eq, Bool.not_eq_false]; assumption)); exact rfl) | (refine W.condA (ht := fun hb => ?_) (hf := fun hb => ?_) <;> (try simp at hb) <;> (try (exfalso; omega))))
        all_goals first
          | exact Fin.ret ResL.auto
          | (exfalso; omega)
          | trace_state
end
end Go.Proofs.YtjedkgogjehigaaGreat
end
section
set_option linter.unusedVariables false
set_option linter.unusedSimpArgs false
set_option maxHeartbeats 8000000
set_option linter.unusedSectionVars false
namespace Go.Proofs.YtjedkgogjehigaaGreat
open Lf Go
attribute [local irreducible] PureOp EffOp Ev RG W Then InBlock Lf.Fin nth App InitE Pick SubE EvL EvD EvP EvR ResL Lf.Lex SubR SubBR RA RAll EvC FinO FinM ResM ResD FinS val pw digs trimL
section
def fewF (lets : List Let) (e : Exp) (v : EnvV) : Bool := (fewL lets && fewE e 31) && fewV v
theorem few_ok {lets : List Let} (hl : LIn lets) (e : Exp) (he : OkE e) (v : EnvV) (hv : v.Len) : ACalls Tryz.prog 6 [xV lets, aE e, vV v] (.pv (cB (fewF lets e v))) := by
  have c1 := fewL_ok hl
  have c2 := fewE_ok e he 31 (by omega) (by omega)
  have c3 := fewV_ok v hv
  unfold fewF
  generalize fewL lets = b1 at *
  generalize fewE e 31 = b2 at *
  generalize fewV v = b3 at *
  obtain ⟨op, k, u, s, l⟩ := e
  obtain ⟨N, V, I, R⟩ := v
  refine ACalls.of_W (qs := [cB ((b1 && b2) && b3)]) [6] 18 Tryz.func6 (by kernel_rfl) rfl rfl rfl fun G => ?_
  refine W.initA (hw := ?_)
  repeat' (first | ((first | apply U_ | (apply Ug_; exact rfl; exact rfl) | (apply Ugq_; exact rfl; exact rfl)); (first | exact QX.B TYok | exact QCd (c1) | exact QCd (c2) | exact QCd (c3)); exact rfl) | refine SX.Box TYok (h := ?_) | refine SC ?_ | (apply RG.gT; exact rfl; exact rfl; (first | assumption | decide)) | (apply RG.gF; exact rfl; exact rfl; (first | assumption | decide | (rw [ne_eq, Bool.not_eq_true]; assumption) | (rw [ne_eq, Bool.not_eq_false]; assumption)); exact rfl) | (refine W.condA (ht := fun hb => ?_) (hf := fun hb => ?_) <;> (try simp at hb) <;> (try (exfalso; omega))))
  all_goals exact Fin.ret ResL.auto
theorem env_ok (v : EnvV) : ACalls Tryz.prog 8 [vV v] (.pv (vV v)) := by
  obtain ⟨N, V, I, R⟩ := v
  refine ACalls.of_M TYok (qs := [.agg [.sl (N.map encS), .sl (V.map encF), .sl (I.map encS), .sl (R.map encF)]]) [.cell 2 44] 12 Tryz.func8 (by kernel_rfl) rfl rfl rfl fun G => ?_
  refine W.initA (hw := ?_)
  repeat' (first | ((first | apply U_); (first | exact QX.B TYok | exact QX.Build TYok); exact rfl) | refine SX.Alloc TYok (h := ?_) | refine SX.Store TYok (h := ?_) | refine SX.Box TYok (h := ?_) | refine SC ?_ | (refine W.condA (ht := fun hb => ?_) (hf := fun hb => ?_) <;> (try simp at hb) <;> (try (exfalso; omega))))
  all_goals exact FinM.ret ResM.auto
def nodeE (op : Int) (a b : Exp) : Exp := .mk op 0 0 [] [a, b]
theorem node_ok (op : Int) (a b : Exp) : ACalls Tryz.prog 15 [cI op, aE a, aE b] (.pv (aE (nodeE op a b))) := by
  rw [show aE (nodeE op a b) = .agg [.int .i64 op, .int .i64 0, .int .i64 0, .str [], .sl [encX a, encX b]] from aE_mk ..]
  refine ACalls.of_M TYok (qs := [.agg [.int .i64 op, .int .i64 0, .int .i64 0, .str [], .sl [encX a, encX b]]]) [.cell 6 25] 12 Tryz.func15 (by kernel_rfl) rfl rfl rfl fun G => ?_
  refine W.initA (hw := ?_)
  repeat' (first | ((first | apply U_); (first | (apply Q_litD TYok; apply EvR.cons Ev.auto; (repeat (first | exact EvR.nil | apply EvR.cons Ev.auto)); exact rfl; exact rfl; exact rfl; exact rfl; exact rfl; exact rfl) | exact QX.B TYok | exact QX.Build TYok); exact rfl) | refine SX.Alloc TYok (h := ?_) | refine SX.Store TYok (h := ?_) | refine SX.Lit TYok (h := ?_) | refine SX.Box TYok (h := ?_) | refine SC ?_ | (refine W.condA (ht := fun hb => ?_) (hf := fun hb => ?_) <;> (try simp at hb) <;> (try (exfalso; omega))))
  all_goals exact FinM.ret ResM.auto
theorem okNode {op : Int} {a b : Exp} (ha : OkE a) (hb : OkE b) : OkE (nodeE op a b) := .mk (by decide) (by simp) (fun x hx => by
  rcases List.mem_cons.1 hx with rfl | hx
  · exact ha
  · rw [List.mem_singleton.1 hx]; exact hb)
attribute [local irreducible] sgn mag gcdZ quoZ remZ fullZ fullE
theorem of_ok (n m : Int) (h : i64B n) (hm : i64B m) (h0 : m ≠ 0) : ACalls Tryz.prog 14 [cI n, cI m] (.pv (zF (Rat.divInt n m))) := by
  have n1 := qof_ok n m h hm h0
  generalize Rat.divInt n m = r at *
  refine ACalls.of_M TYok (qs := [zF r]) [.cell 4 40] 14 Tryz.func14 (by kernel_rfl) rfl rfl rfl fun G => ?_
  refine W.initA (hw := ?_)
  repeat' (first | ((first | apply U_); (first | exact QX.B TYok | exact QX.Ext TYok | exact QCd (n1)); exact rfl) | refine SX.Alloc TYok (h := ?_) | refine SX.Store TYok (h := ?_) | refine SC ?_ | (refine W.condA (ht := fun hb => ?_) (hf := fun hb => ?_) <;> (try simp at hb) <;> (try (exfalso; omega))))
  all_goals exact FinM.ret ResM.auto
theorem same0_ok : ACalls Tryz.prog 10 [zF0, zF0] (.pv (cB true)) := by
  have s1 := sameBig_ok 0 0 [] [] (by simp) (by simp)
  rw [show (decide ((0 : Int) = 0) && decide (([] : List Int) = [])) = true by decide] at s1
  refine ACalls.of_W (qs := [cB true]) [4] 17 Tryz.func10 (by kernel_rfl) rfl rfl rfl fun G => ?_
  refine W.initA (hw := ?_)
  repeat' (first | ((first | apply U_ | (apply Ug_; exact rfl; exact rfl) | (apply Ugq_; exact rfl; exact rfl)); (first | exact QX.B TYok | exact QCd (s1)); exact rfl) | refine SX.Box TYok (h := ?_) | refine SC ?_ | (apply RG.gT; exact rfl; exact rfl; (first | assumption | decide)) | (apply RG.gF; exact rfl; exact rfl; (first | assumption | decide | (rw [ne_eq, Bool.not_eq_true]; assumption) | (rw [ne_eq, Bool.not_eq_false]; assumption)); exact rfl) | (refine W.condA (ht := fun hb => ?_) (hf := fun hb => ?_) <;> (try simp at hb) <;> (try (exfalso; omega))))
  all_goals exact Fin.ret ResL.auto
theorem sameV_ok (R : Rs) (h : R.fit) : ACalls Tryz.prog 10 [R.v, R.v] (.pv (cB true)) := by
  cases R with
  | ok r =>
    have := same_ok r r h h
    rwa [decide_eq_true rfl] at this
  | err e => exact same0_ok
def rN : Rat := Rat.divInt 300 1
def rM : Rat := Rat.divInt 100 1
def rA : Rat := Rat.divInt 1 20
def offQ : EnvQ := ⟨[[100, 101, 98, 116], [99, 97, 115, 104]], [rN, rM], [[97]], [rA]⟩
theorem ix {n : Int} (h : -1000 ≤ n ∧ n ≤ 1000) : i64B n := by unfold i64B; omega
theorem okC {n m : Int} (h : -1000 ≤ n ∧ n ≤ 1000) (hm : -1000 ≤ m ∧ m ≤ 1000) (h0 : m ≠ 0) : okF (Rat.divInt n m) := okF_of (i64_ok (ix h)) (i64_ok (ix hm)) h0
theorem offQ_ok : offQ.Ok := ⟨fun r hr => by
    rcases List.mem_cons.1 hr with rfl | hr
    · exact okC (by omega) (by omega) (by omega)
    · rw [List.mem_singleton.1 hr]; exact okC (by omega) (by omega) (by omega), fun r hr => by
    rw [List.mem_singleton.1 hr]; exact okC (by omega) (by omega) (by omega), rfl, rfl, by decide, by decide⟩
theorem office_ok : ACalls Tryz.prog 16 [] (.pv (vV offQ.V)) := by
  rw [vV_q]
  have o1 := of_ok 300 1 (ix (by omega)) (ix (by omega)) (by omega)
  have o2 := of_ok 100 1 (ix (by omega)) (ix (by omega)) (by omega)
  have o3 := of_ok 1 20 (ix (by omega)) (ix (by omega)) (by omega)
  show ACalls Tryz.prog 16 [] (.pv (.agg [.sl [encS [100, 101, 98, 116], encS [99, 97, 115, 104]], .sl [encQ rN, encQ rM], .sl [encS [97]], .sl [encQ rA]]))
  change ACalls Tryz.prog 14 _ (.pv (zF rN)) at o1
  change ACalls Tryz.prog 14 _ (.pv (zF rM)) at o2
  change ACalls Tryz.prog 14 _ (.pv (zF rA)) at o3
  generalize rN = r1 at *
  generalize rM = r2 at *
  generalize rA = r3 at *
  refine ACalls.of_M TYok (qs := [.agg [.sl [encS [100, 101, 98, 116], encS [99, 97, 115, 104]], .sl [encQ r1, encQ r2], .sl [encS [97]], .sl [encQ r3]]]) [.cell 0 29] 9 Tryz.func16 (by kernel_rfl) rfl rfl rfl fun G => ?_
  refine W.initA (hw := ?_)
  repeat' (first | ((first | apply U_); (first | (apply Q_litD TYok; apply EvR.cons Ev.auto; (repeat (first | exact EvR.nil | apply EvR.cons Ev.auto)); exact rfl; exact rfl; exact rfl; exact rfl; exact rfl; exact rfl) | exact QX.B TYok | exact QX.Build TYok | exact QCd (o1) | exact QCd (o2) | exact QCd (o3)); exact rfl) | refine SX.Alloc TYok (h := ?_) | refine SX.Store TYok (h := ?_) | refine SX.Lit TYok (h := ?_) | refine SC ?_ | (refine W.condA (ht := fun hb => ?_) (hf := fun hb => ?_) <;> (try simp at hb) <;> (try (exfalso; omega))))
  all_goals exact FinM.ret ResM.auto
end
end Go.Proofs.YtjedkgogjehigaaGreat
end
section
set_option linter.unusedVariables false
set_option linter.unusedSimpArgs false
set_option maxHeartbeats 8000000
set_option linter.unusedSectionVars false
namespace Go.Proofs.YtjedkgogjehigaaGreat
open Lf Go
attribute [local irreducible] PureOp EffOp Ev RG W Then InBlock Lf.Fin nth App InitE Pick SubE EvL EvD EvP EvR ResL Lf.Lex SubR SubBR RA RAll EvC FinO FinM ResM ResD FinS val pw digs trimL
section
instance (x : Int) : Decidable (okZ x) := by unfold okZ; infer_instance
instance (a b : Rat) : Decidable (divOk a b) := by unfold divOk; infer_instance
instance (a b c d : Int) : Decidable (sumOk a b c d) := by unfold sumOk; infer_instance
instance (a b : Rat) : Decidable (addOk a b) := by unfold addOk; infer_instance
instance : DecidableEq Rs := fun a b => match a, b with
  | .ok x, .ok y => if h : x = y then isTrue (by rw [h]) else isFalse (fun e => h (by injection e))
  | .err x, .err y => if h : x = y then isTrue (by rw [h]) else isFalse (fun e => h (by injection e))
  | .ok _, .err _ => isFalse (fun e => by injection e)
  | .err _, .ok _ => isFalse (fun e => by injection e)
theorem bin4 (a b : Rat) : binF 4 a b = addR a b := by unfold binF; rw [if_pos rfl]
theorem bin7 (a b : Rat) : binF 7 a b = divR a b := by unfold binF; rw [if_neg (by omega), if_neg (by omega), if_neg (by omega), if_pos rfl]
theorem bin9 (a b : Rat) : binF 9 a b = .ok (if cmpR a b ≤ 0 then b else a) := by unfold binF; rw [if_neg (by omega), if_neg (by omega), if_neg (by omega), if_neg (by omega), if_neg (by omega), if_pos rfl]
theorem bin10 (a b : Rat) : binF 10 a b = .ok (one01 (decide (cmpR a b < 0))) := by unfold binF; rw [if_neg (by omega), if_neg (by omega), if_neg (by omega), if_neg (by omega), if_neg (by omega), if_neg (by omega), if_pos rfl]
theorem bin11 (a b : Rat) : binF 11 a b = .ok (one01 (decide (cmpR a b = 0))) := by unfold binF; rw [if_neg (by omega), if_neg (by omega), if_neg (by omega), if_neg (by omega), if_neg (by omega), if_neg (by omega), if_neg (by omega), if_pos rfl]
theorem divR_yes {a b : Rat} (h0 : b.num ≠ 0) (h : divOk a b) : divR a b = .ok (a / b) := by unfold divR; rw [if_neg h0, if_pos h]
theorem divR_zero {a b : Rat} (h0 : b.num = 0) : divR a b = .err 15 := by unfold divR; rw [if_pos h0]
theorem addR_yes {a b : Rat} (h : addOk a b) : addR a b = .ok (a + b) := by unfold addR; rw [if_pos h]
theorem nth0 {α : Type} [Inhabited α] (x : α) (l : List α) : nth (x :: l) 0 = x := by rw [nth]; rfl
theorem nth1 {α : Type} [Inhabited α] (x y : α) (l : List α) : nth (x :: y :: l) 1 = y := by rw [nth]; rfl
theorem nth2 {α : Type} [Inhabited α] (x y z : α) (l : List α) : nth (x :: y :: z :: l) 2 = z := by rw [nth]; rfl
variable {lets : List Let} {en : EnvQ} {vs : List Rs}
theorem ev_num (n u : Int) (s : Str) (l : List Exp) : evF lets en vs (.mk 0 n u s l) = .ok (if u = 2 then Rat.divInt n 1000 else Rat.divInt n 1) := by rw [evF_mk, stepF, if_pos rfl]
theorem ev_name (n u : Int) (s : Str) (l : List Exp) : evF lets en vs (.mk 1 n u s l) = lookN lets vs s := by rw [evF_mk, stepF, if_neg (by omega), if_pos rfl]
theorem ev_fact (n u : Int) (s : Str) (l : List Exp) : evF lets en vs (.mk 2 n u s l) = lookF en.names en.vals s := by rw [evF_mk, stepF, if_neg (by omega), if_neg (by omega), if_pos rfl]
theorem ev_rate (n u : Int) (s : Str) (l : List Exp) : evF lets en vs (.mk 3 n u s l) = lookF en.iss en.rates s := by rw [evF_mk, stepF, if_neg (by omega), if_neg (by omega), if_neg (by omega), if_pos rfl]
theorem ev_two {op : Int} {a b : Exp} {p q : Rat} (h : 4 ≤ op ∧ op ≤ 11) (ha : evF lets en vs a = .ok p) (hb : evF lets en vs b = .ok q) : evF lets en vs (nodeE op a b) = binF op p q := by
  rw [nodeE, evF_mk, stepF, if_neg (by omega), if_neg (by omega), if_neg (by omega), if_neg (by omega), List.map_cons, List.map_cons, List.map_nil, nth0, ha]
  dsimp only
  rw [if_neg (by omega), if_neg (by omega), if_neg (by omega), nth1, hb]
theorem ev_if {c a b : Exp} : evF lets en vs (.mk 15 0 0 [] [c, a, b]) = match evF lets en vs c with | .err e => .err e | .ok w => if sgn w.num = 0 then evF lets en vs b else evF lets en vs a := by
  rw [evF_mk, stepF, if_neg (by omega), if_neg (by omega), if_neg (by omega), if_neg (by omega), List.map_cons, List.map_cons, List.map_cons, List.map_nil, nth0]
  cases evF lets en vs c with
  | err e => rfl
  | ok w => dsimp only; rw [if_neg (by omega), if_pos rfl, nth1, nth2]
abbrev kLever : Str := [108, 101, 118, 101, 114]
abbrev kDebt : Str := [100, 101, 98, 116]
abbrev kCash : Str := [99, 97, 115, 104]
abbrev fDebt : Exp := .mk 2 0 0 kDebt []
abbrev fCash : Exp := .mk 2 0 0 kCash []
def lev : Exp := nodeE 7 fDebt fCash
def lets0 : List Let := [⟨kLever, lev⟩]
abbrev nLever : Exp := .mk 1 0 0 kLever []
def x1 : Exp := nodeE 10 nLever (.mk 0 4 0 [] [])
def x2 : Exp := nodeE 4 (.mk 3 0 0 [97] []) (.mk 0 25 2 [] [])
def x3 : Exp := .mk 1 0 0 kCash []
def zeroE : Exp := nodeE 7 (.mk 0 1 0 [] []) (.mk 0 0 0 [] [])
def max2 : Exp := nodeE 9 nLever (.mk 0 2 0 [] [])
def x4 : Exp := .mk 15 0 0 [] [.mk 0 0 4 [] [], zeroE, max2]
theorem okLeaf {op n u : Int} {s : Str} (h : s.length ≤ 9223372036854775807) : OkE (.mk op n u s []) := .mk h (by simp) (fun x hx => by cases hx)
theorem ok_lev : OkE lev := okNode (okLeaf (by decide)) (okLeaf (by decide))
theorem ok_x1 : OkE x1 := okNode (okLeaf (by decide)) (okLeaf (by decide))
theorem ok_x2 : OkE x2 := okNode (okLeaf (by decide)) (okLeaf (by decide))
theorem ok_x3 : OkE x3 := okLeaf (by decide)
theorem ok_zero : OkE zeroE := okNode (okLeaf (by decide)) (okLeaf (by decide))
theorem ok_x4 : OkE x4 := .mk (by decide) (by decide) (fun x hx => by
  rcases List.mem_cons.1 hx with rfl | hx
  · exact okLeaf (by decide)
  rcases List.mem_cons.1 hx with rfl | hx
  · exact ok_zero
  rw [List.mem_singleton.1 hx]
  exact okNode (okLeaf (by decide)) (okLeaf (by decide)))
theorem stats : statF lev = true ∧ statF x1 = true ∧ statF x2 = true ∧ statF x3 = true ∧ statF zeroE = true ∧ statF x4 = true := by decide +kernel
theorem lets0_ok : LetsOk lets0 := ⟨by decide, fun y hy => by rw [List.mem_singleton.1 hy]; exact ⟨stats.1, ok_lev⟩⟩
theorem lev_val : evF lets0 offQ [] lev = .ok (Rat.divInt 3 1) := by
  have e1 : evF lets0 offQ [] fDebt = .ok rN := by rw [ev_fact]; decide +kernel
  have e2 : evF lets0 offQ [] fCash = .ok rM := by rw [ev_fact]; decide +kernel
  rw [lev, ev_two (by omega) e1 e2, bin7]
  rw [divR_yes (by decide +kernel) (by decide +kernel)]
  decide +kernel
theorem tab1 : tabF lets0 offQ 1 = [.ok (Rat.divInt 3 1)] := by
  rw [tabF, tabF, List.nil_append, show nth lets0 0 = ⟨kLever, lev⟩ from nth0 _ _, lev_val]
theorem name_val : evF lets0 offQ (tabF lets0 offQ 1) nLever = .ok (Rat.divInt 3 1) := by
  rw [ev_name, tab1]; decide +kernel
theorem val1 : valF lets0 offQ lets0.length x1 = .ok (Rat.divInt 1 1) := by
  rw [show lets0.length = 1 from rfl, valF, x1, ev_two (by omega) name_val (ev_num ..), bin10]
  decide +kernel
theorem val2 : valF lets0 offQ lets0.length x2 = .ok (Rat.divInt 3 40) := by
  have e1 : evF lets0 offQ (tabF lets0 offQ 1) (.mk 3 0 0 [97] []) = .ok rA := by rw [ev_rate]; decide +kernel
  rw [show lets0.length = 1 from rfl, valF, x2, ev_two (by omega) e1 (ev_num ..), bin4]
  rw [addR_yes (by decide +kernel)]
  decide +kernel
theorem val3 : valF lets0 offQ lets0.length x3 = .err 14 := by
  rw [show lets0.length = 1 from rfl, valF, x3, ev_name, tab1]
  decide +kernel
theorem val5 : valF lets0 offQ lets0.length zeroE = .err 15 := by
  rw [show lets0.length = 1 from rfl, valF, zeroE, ev_two (by omega) (ev_num ..) (ev_num ..), bin7]
  exact divR_zero (by decide +kernel)
theorem val4 : valF lets0 offQ lets0.length x4 = .ok (Rat.divInt 3 1) := by
  rw [show lets0.length = 1 from rfl, valF, x4, ev_if, ev_num]
  show (if _ then _ else _) = _
  rw [if_pos (by decide +kernel), max2, ev_two (by omega) name_val (ev_num ..), bin9]
  decide +kernel
end
end Go.Proofs.YtjedkgogjehigaaGreat
end
section
set_option linter.unusedVariables false
set_option linter.unusedSimpArgs false
set_option maxHeartbeats 8000000
set_option linter.unusedSectionVars false
namespace Go.Proofs.YtjedkgogjehigaaGreat
open Lf Go
attribute [local irreducible] PureOp EffOp Ev RG W Then InBlock Lf.Fin nth App InitE Pick SubE EvL EvD EvP EvR ResL Lf.Lex SubR SubBR RA RAll EvC FinO FinM ResM ResD FinS val pw digs trimL
section
attribute [local irreducible] sgn mag gcdZ quoZ remZ fullZ fullE
theorem leaf_sub {op n u : Int} {s : Str} : PSub (.agg [.int .i64 op, .int .i64 n, .int .i64 u, .str s, .slnil]) (.agg [.int .i64 op, .int .i64 n, .int .i64 u, .str s, .sl []]) := ⟨.refl _, .refl _, .refl _, .refl _, .nil, trivial⟩
theorem Q_leaf {P : Program} {G : Ghost} {A : St} {o : Oper} {p : Prop} {op n u : Int} {s : Str} (h : PureOp P G A o p (.pv (.agg [.int .i64 op, .int .i64 n, .int .i64 u, .str s, .slnil]))) : PureOp P G A o p (.pv (.agg [.int .i64 op, .int .i64 n, .int .i64 u, .str s, .sl []])) :=
  PureOp.conv h fun Φ β a w hs Φ' v h => by
    have h' : PRel Φ' v (.agg [.int .i64 op, .int .i64 n, .int .i64 u, .str s, .slnil]) := h
    exact h'.sub leaf_sub
theorem vcall {e : Exp} {R : Rs} (hst : statF e = true) (he : OkE e) (h : valF lets0 offQ lets0.length e = R) : ACalls Tryz.prog 7 [xV lets0, aE e, vV offQ.V] (resP R) := by
  rw [← h]
  exact value_yes lets0_ok offQ_ok hst he
theorem aE_leaf (op n u : Int) (s : Str) : aE (.mk op n u s []) = .agg [.int .i64 op, .int .i64 n, .int .i64 u, .str s, .sl []] := aE_mk ..
theorem small_ok : ACalls Tryz.prog 5 [] (.pv (cB true)) := by
  obtain ⟨t1, t2, t3, t4, t5, t6⟩ := stats
  have v1 := vcall t2 ok_x1 val1
  have v2 := vcall t3 ok_x2 val2
  have v3 := vcall t4 ok_x3 val3
  have v4 := vcall t6 ok_x4 val4
  have v5 := vcall t5 ok_zero val5
  have n1 : ACalls Tryz.prog 15 [cI 7, aE fDebt, aE fCash] (.pv (aE lev)) := node_ok 7 fDebt fCash
  have n2 : ACalls Tryz.prog 15 [cI 10, aE nLever, aE (.mk 0 4 0 [] [])] (.pv (aE x1)) := node_ok 10 _ _
  have n3 : ACalls Tryz.prog 15 [cI 4, aE (.mk 3 0 0 [97] []), aE (.mk 0 25 2 [] [])] (.pv (aE x2)) := node_ok 4 _ _
  have n4 : ACalls Tryz.prog 15 [cI 7, aE (.mk 0 1 0 [] []), aE (.mk 0 0 0 [] [])] (.pv (aE zeroE)) := node_ok 7 _ _
  have n5 : ACalls Tryz.prog 15 [cI 9, aE nLever, aE (.mk 0 2 0 [] [])] (.pv (aE max2)) := node_ok 9 _ _
  have o := office_ok
  have en := env_ok offQ.V
  have f1 := of_ok 1 1 (ix (by omega)) (ix (by omega)) (by omega)
  have f2 := of_ok 3 40 (ix (by omega)) (ix (by omega)) (by omega)
  have f3 := of_ok 3 1 (ix (by omega)) (ix (by omega)) (by omega)
  have q1 := sameV_ok (.ok (Rat.divInt 1 1)) (okC (by omega) (by omega) (by omega))
  have q2 := sameV_ok (.ok (Rat.divInt 3 40)) (okC (by omega) (by omega) (by omega))
  have q3 := sameV_ok (.ok (Rat.divInt 3 1)) (okC (by omega) (by omega) (by omega))
  replace q1 : ACalls Tryz.prog 10 [zF (Rat.divInt 1 1), zF (Rat.divInt 1 1)] (.pv (cB true)) := q1
  replace q2 : ACalls Tryz.prog 10 [zF (Rat.divInt 3 40), zF (Rat.divInt 3 40)] (.pv (cB true)) := q2
  replace q3 : ACalls Tryz.prog 10 [zF (Rat.divInt 3 1), zF (Rat.divInt 3 1)] (.pv (cB true)) := q3
  replace v1 : ACalls Tryz.prog 7 _ (.tup [zF (Rat.divInt 1 1), cI 0]) := v1
  replace v2 : ACalls Tryz.prog 7 _ (.tup [zF (Rat.divInt 3 40), cI 0]) := v2
  replace v3 : ACalls Tryz.prog 7 _ (.tup [zF0, cI 14]) := v3
  replace v4 : ACalls Tryz.prog 7 _ (.tup [zF (Rat.divInt 3 1), cI 0]) := v4
  replace v5 : ACalls Tryz.prog 7 _ (.tup [zF0, cI 15]) := v5
  rw [show xV lets0 = .agg [.str [], .str [], .int .i64 0, .int .i64 0, .int .i64 0, .int .i64 0, .int .i64 0, .int .i64 0, .int .i64 0, .int .i64 0, .sl [.str kLever :: encX lev], .int .i64 0, .int .i64 0, .int .i64 0, .str [], .slnil, .int .i64 0, .slnil, .slnil, .int .i64 0, .slnil, .int .i64 0, .int .i64 0, .int .i64 0, .int .i64 0] from rfl] at v1 v2 v3 v4 v5
  rw [show aE x4 = .agg [.int .i64 15, .int .i64 0, .int .i64 0, .str [], .sl [encX (.mk 0 0 4 [] []), encX zeroE, encX max2]] from aE_mk ..] at v4
  rw [show aE x3 = .agg [.int .i64 1, .int .i64 0, .int .i64 0, .str kCash, .sl []] from aE_mk ..] at v3
  rw [aE_leaf, aE_leaf] at n1 n2 n3 n4 n5
  rw [show encX (.mk 0 0 4 [] []) = [.int .i64 0, .int .i64 0, .int .i64 4, .str [], .sl []] from rfl] at v4
  change ACalls Tryz.prog 15 _ (.pv (.agg (encX lev))) at n1
  change ACalls Tryz.prog 15 _ (.pv (.agg (encX x1))) at n2
  change ACalls Tryz.prog 15 _ (.pv (.agg (encX x2))) at n3
  change ACalls Tryz.prog 15 _ (.pv (.agg (encX zeroE))) at n4
  change ACalls Tryz.prog 15 _ (.pv (.agg (encX max2))) at n5
  generalize offQ.V = V at *
  obtain ⟨V1, V2, V3, V4⟩ := V
  generalize Rat.divInt 1 1 = r1 at *
  generalize Rat.divInt 3 40 = r2 at *
  generalize Rat.divInt 3 1 = r3 at *
  have sp : ∀ e : Exp, ∃ (a b c : Int) (s : Str) (l : List (List Cell)), encX e = [.int .i64 a, .int .i64 b, .int .i64 c, .str s, .sl l] := fun e => ⟨_, _, _, _, _, rfl⟩
  obtain ⟨l1, l2, l3, l4, l5, hlev⟩ := sp lev
  obtain ⟨a1, a2, a3, a4, a5, hx1⟩ := sp x1
  obtain ⟨b1, b2, b3, b4, b5, hx2⟩ := sp x2
  obtain ⟨c1, c2, c3, c4, c5, hz⟩ := sp zeroE
  obtain ⟨d1, d2, d3, d4, d5, hm⟩ := sp max2
  rw [show aE x1 = .agg (encX x1) from rfl, hx1] at v1
  rw [show aE x2 = .agg (encX x2) from rfl, hx2] at v2
  rw [show aE zeroE = .agg (encX zeroE) from rfl, hz] at v5
  rw [hlev] at n1 v1 v2 v3 v4 v5
  rw [hx1] at n2
  rw [hx2] at n3
  rw [hz] at n4 v4
  rw [hm] at n5 v4
  clear sp hlev hx1 hx2 hz hm t1 t2 t3 t4 t5 t6
  refine ACalls.of_W (qs := [cB true]) [0] 111 Tryz.func5 (by kernel_rfl) rfl rfl rfl fun G => ?_
  refine W.initA (hw := ?_)
  repeat' (first | ((first | apply U_ | (apply Ug_; exact rfl; exact rfl) | (apply Ugq_; exact rfl; exact rfl) | apply Lex.u | (apply Lex.g; exact rfl; exact rfl) | (apply Lex.gq; exact rfl; exact rfl)); (first | (apply Q_leaf; exact QX.Build TYok) | (apply Q_litD TYok; apply EvR.cons Ev.auto; (repeat (first | exact EvR.nil | apply EvR.cons Ev.auto)); exact rfl; exact rfl; exact rfl; exact rfl; exact rfl; exact rfl) | exact QX.B TYok | exact QX.Ext TYok | exact QX.Build TYok | exact QCd (n1) | exact QCd (n2) | exact QCd (n3) | exact QCd (n4) | exact QCd (n5) | exact QCd (o) | exact QCd (en) | exact QCd (v1) | exact QCd (v2) | exact QCd (v3) | exact QCd (v4) | exact QCd (v5) | exact QCd (f1) | exact QCd (f2) | exact QCd (f3) | exact QCd (q1) | exact QCd (q2) | exact QCd (q3)); exact rfl) | refine SX.Alloc TYok (h := ?_) | refine SX.Store TYok (h := ?_) | refine SX.Lit TYok (h := ?_) | refine SC ?_ | (apply S_isnil TYok; exact rfl; exact rfl; exact rfl; exact Ev.auto; intro bn hnil) | (apply RG.gT; exact rfl; exact rfl; (first | assumption | decide)) | (apply RG.gF; exact rfl; exact rfl; (first | assumption | decide | (rw [ne_eq, Bool.not_eq_true]; assumption) | (rw [ne_eq, Bool.not_eq_false]; assumption)); exact rfl) | apply LexS.nil | (apply LexS.f; exact rfl; (first | (apply FreshV.alloc TYok; exact rfl; exact rfl; exact rfl; exact rfl) | (apply FreshV.lit TYok; (repeat (first | exact EvR.nil | apply EvR.cons Ev.auto)); exact rfl; exact rfl; exact rfl; exact rfl; exact rfl; exact rfl; exact rfl; exact rfl; exact rfl) | (apply FreshV.box; exact Ev.auto; exact rfl; exact rfl; exact rfl)); exact rfl; exact rfl; exact rfl) | (apply LexS.s; exact rfl; exact rfl; (apply StoreV.mk TYok; exact Ev.auto; exact Ev.auto; exact rfl; exact rfl; exact rfl; exact rfl; exact rfl)) | ((first | apply LexS.u | (apply LexS.g; exact rfl; exact rfl) | (apply LexS.gq; exact rfl; exact rfl)); (repeat (first | (apply NB.cons; exact rfl) | exact NB.nil rfl)); (first | (apply Q_leaf; exact QX.Build TYok) | (apply Q_litD TYok; apply EvR.cons Ev.auto; (repeat (first | exact EvR.nil | apply EvR.cons Ev.auto)); exact rfl; exact rfl; exact rfl; exact rfl; exact rfl; exact rfl) | exact QX.B TYok | exact QX.Ext TYok | exact QX.Build TYok | exact QCd (n1) | exact QCd (n2) | exact QCd (n3) | exact QCd (n4) | exact QCd (n5) | exact QCd (o) | exact QCd (en) | exact QCd (v1) | exact QCd (v2) | exact QCd (v3) | exact QCd (v4) | exact QCd (v5) | exact QCd (f1) | exact QCd (f2) | exact QCd (f3) | exact QCd (q1) | exact QCd (q2) | exact QCd (q3)); exact rfl; exact rfl; exact rfl) | (apply W.draw2 (id := 10) [0, 0, 3, 7, 15, 31, 63, 127, 255, 255, 1023, 2047, 4095, 8191, 16383, 32767, 65535] [[4], [], [77, 78], [79], [5, 80], [81, 80], [80, 82], [83], [6, 84], [84], [85, 86, 84], [84, 87], [88], [7, 89], [90, 89], [89, 91], [92]] 17 [(77, 16), (78, 0), (79, 453347182355485940514816), (80, 604462909807314587353088), (81, 1208925819614629174706208), (82, 3626777458843887524118528), (83, 6044629098073145873530880), (84, 9671406556917033397649408), (85, 19342813113834066795298880), (86, 19342813113834066795298816), (87, 135399691796838467567091712), (88, 174085318024506601157689344), (89, 309485009821345068724781056), (90, 618970019642690137449562240), (91, 1856910058928070412348686336), (92, 3094850098213450687247810560), (15, 4951760157141521099596496896)] mixed (by kernel_rfl) rfl rfl) | (apply W.draw2 (id := 11) [0, 1, 3, 7, 15, 31, 63, 63, 255, 511, 1023, 2047, 4095, 8191, 16383, 32767, 65535, 131071, 262143] [[15], [93], [9, 94], [95, 94], [94, 96], [97], [11, 98], [98], [99, 100, 98], [98, 101], [102], [12, 103], [104, 103], [103, 105], [106], [14, 107], [108, 107], [107, 109], [110]] 19 [(93, 32768), (94, 9903520314283042199192993792), (95, 19807040628566084398385988096), (96, 59421121885698253195157962752), (97, 99035203142830421991929937920), (98, 158456325028528675187087900672), (99, 316912650057057350374175803392), (100, 316912650057057350374175801344), (101, 2218388550399401452619230609408), (102, 2852213850513516153367582212096), (103, 5070602400912917605986812821504), (104, 10141204801825835211973625647104), (105, 30423614405477505635920876929024), (106, 50706024009129176059868128215040), (107, 81129638414606681695789005144064), (108, 162259276829213363391578010304512), (109, 486777830487640090174734030864384), (110, 811296384146066816957890051440640), (0, 1298074214633706907132624082305024)] mixed (by kernel_rfl) rfl rfl) | (refine W.drawS (id := 4) [0, 0, 0, 6, 14, 30, 63, 127, 255, 255, 0, 1535, 4095] [[2], [3], [], [26, 27], [], [29], [25, 28, 30], [31], [24], [24], [], [4, 32], [33]] [(11, (4, ?_)), (10, (4, ?_))] [(11, 4), (10, 4)] mixed (by kernel_rfl) rfl ?_; rotate_left 2) | (refine W.drawS (id := 5) [0, 0, 0, 6, 14, 30, 63, 127, 255, 255, 0, 1535, 4095] [[2], [], [], [36, 37], [], [39], [35, 38, 40], [41], [34], [34], [], [6, 42], [43]] [(11, (6, ?_)), (10, (6, ?_))] [(11, 6), (10, 6)] mixed (by kernel_rfl) rfl ?_; rotate_left 2) | (refine W.drawS (id := 6) [0, 0, 0, 4, 15, 31, 63, 63, 0, 383, 1023] [[2], [], [], [47], [45, 46, 48], [49], [44], [44], [], [8, 50], [51]] [(9, (8, ?_)), (8, (8, ?_))] [(9, 8), (8, 8)] mixed (by kernel_rfl) rfl ?_; rotate_left 2) | (refine W.drawS (id := 8) [0, 0, 0, 0, 0, 24, 62, 126, 56, 312, 1023, 2047, 4095, 4095, 0, 24575, 65535] [[2], [], [10], [3], [], [59, 60], [57, 58, 61], [62], [], [64], [56, 63, 65], [66], [55], [55], [], [11, 67], [68]] [(15, (11, ?_)), (14, (11, ?_))] [(15, 11), (14, 11)] mixed (by kernel_rfl) rfl ?_; rotate_left 2) | (refine W.drawS (id := 9) [0, 0, 0, 4, 15, 31, 63, 63, 0, 383, 1023] [[2], [10], [], [72], [70, 71, 73], [74], [69], [69], [], [13, 75], [76]] [(9, (13, ?_)), (8, (13, ?_))] [(9, 13), (8, 13)] mixed (by kernel_rfl) rfl ?_; rotate_left 2) | (refine W.condA (ht := fun hb => ?_) (hf := fun hb => ?_) <;> (try simp at hb) <;> (try (exfalso; omega))))
  all_goals first
    | exact Fin.ret ResL.auto
    | trace_state
end
end Go.Proofs.YtjedkgogjehigaaGreat
end
section
set_option linter.unusedVariables false
set_option linter.unusedSimpArgs false
set_option maxHeartbeats 8000000
set_option linter.unusedSectionVars false
namespace Go.Proofs.YtjedkgogjehigaaGreat
open Lf Go
attribute [local irreducible] PureOp EffOp Ev RG W Then InBlock Lf.Fin nth App InitE Pick SubE EvL EvD EvP EvR ResL Lf.Lex SubR SubBR RA RAll EvC FinO FinM ResM ResD FinS val pw digs trimL
section
def lookR (lets : List Let) (rs : List Exp) (e : Exp) (s : Str) : Exp := if (lets.take rs.length).any (nameEq s) then nth rs ((lets.take rs.length).findIdx (nameEq s)) else e
mutual
def repF (lets : List Let) (rs : List Exp) : Exp → Exp
  | .mk op n u s l => if op = 1 then lookR lets rs (.mk op n u s l) s else .mk op n u s (repFs lets rs l)
def repFs (lets : List Let) (rs : List Exp) : List Exp → List Exp
  | [] => []
  | e :: r => repF lets rs e :: repFs lets rs r
end
theorem repFs_map (lets : List Let) (rs : List Exp) : ∀ l, repFs lets rs l = l.map (repF lets rs)
  | [] => by rw [repFs]; rfl
  | e :: r => by rw [repFs, repFs_map lets rs r]; rfl
theorem repF_mk (lets : List Let) (rs : List Exp) (op n u : Int) (s : Str) (l : List Exp) : repF lets rs (.mk op n u s l) = if op = 1 then lookR lets rs (.mk op n u s l) s else .mk op n u s (l.map (repF lets rs)) := by rw [repF, repFs_map]
def repT (lets : List Let) : Nat → List Exp
  | 0 => []
  | k + 1 => repT lets k ++ [repF lets (repT lets k) (nth lets k).body]
theorem repT_len (lets : List Let) : ∀ n, (repT lets n).length = n
  | 0 => rfl
  | k + 1 => by rw [repT, List.length_append, repT_len lets k]; rfl
theorem repT_nth (lets : List Let) {i : Nat} : ∀ {n : Nat}, i < n → nth (repT lets n) i = repF lets (repT lets i) (nth lets i).body
  | 0, h => by omega
  | n + 1, h => by
    rw [repT]
    by_cases e : i = n
    · subst e
      rw [nth, List.getD_eq_getElem?_getD, List.getElem?_append_right (by rw [repT_len]; omega), repT_len, Nat.sub_self]; rfl
    · have := repT_nth lets (i := i) (n := n) (by omega)
      rw [nth, List.getD_eq_getElem?_getD] at this ⊢
      rw [List.getElem?_append_left (by rw [repT_len]; omega)]; exact this
theorem find_hit {α : Type} [Inhabited α] {l : List α} {p : α → Bool} {k : Nat} (h : k < l.length) (h1 : (l.take k).any p = false) (h2 : p (nth l k) = true) : l.any p = true ∧ l.findIdx p = k := by
  have ha : l.any p = true := List.any_eq_true.2 ⟨nth l k, nth_mem h, h2⟩
  have := fidx_hit h h1 h2
  rw [fidx, if_pos ha] at this
  exact ⟨ha, by omega⟩
theorem nth_take {α : Type} [Inhabited α] {l : List α} {n k : Nat} (h : k < n) : nth (l.take n) k = nth l k := by
  rw [nth, nth, List.getD_eq_getElem?_getD, List.getD_eq_getElem?_getD, List.getElem?_take, if_pos h]
theorem aE_split (e : Exp) : aE e = .agg [.int .i64 e.op, .int .i64 e.n, .int .i64 e.u, .str e.s, .sl (e.args.map encE)] := rfl
theorem repl_name (L : List Let) (hL : L.length ≤ 20) (n u : Int) (s : Str) (l : List Exp) (Y : Exp) (rs : List Exp)
    (hc : ∀ k, k < L.length → ACalls Tryz.prog 13 [.one (.sl (List.take k (L.map encL))), aE (nth L k).body] (.pv (aE (nth rs k)))) (hr : rs.length = L.length) :
    ACalls Tryz.prog 13 [.one (.sl (L.map encL)), .agg [.int .i64 1, .int .i64 n, .int .i64 u, .str s, .sl (l.map encX)]] (.pv (aE (if L.any (nameEq s) then nth rs (L.findIdx (nameEq s)) else .mk 1 n u s l))) := by
  generalize hW : (if L.any (nameEq s) then nth rs (L.findIdx (nameEq s)) else Exp.mk 1 n u s l) = Y
  have hm : L.any (nameEq s) = false → Y = .mk 1 n u s l := fun h => by rw [← hW, if_neg (by rw [h]; simp)]
  have hh : ∀ k, k < L.length → (L.take k).any (nameEq s) = false → (nth L k).name = s → nth rs k = Y := fun k h1 h2 h3 => by
    obtain ⟨q1, q2⟩ := find_hit h1 h2 (show nameEq s (nth L k) = true from decide_eq_true h3)
    rw [← hW, if_pos q1, q2]
  clear hW
  have ha := aE_split Y
  rw [ha]
  refine ACalls.of_M TYok (qs := [.agg [.int .i64 Y.op, .int .i64 Y.n, .int .i64 Y.u, .str Y.s, .sl (Y.args.map encE)]]) [.cell 4 25] 64 Tryz.func13 (by kernel_rfl) rfl rfl rfl fun G => ?_
  refine W.initA (hw := ?_)
  repeat' (first | ((first | apply U_ | apply Lex.u | (apply Lex.g; exact rfl; exact rfl) | (apply Lex.gq; exact rfl; exact rfl)); (first | (apply Q_litD TYok; (repeat (first | exact EvR.nil | apply EvR.cons Ev.auto)); exact rfl; exact rfl; exact rfl; exact rfl; exact rfl; exact rfl) | exact QX.B TYok | exact QX.Len TYok | exact QX.Idx TYok | exact QX.Build TYok | exact QX.Cut TYok); exact rfl) | refine SX.Alloc TYok (h := ?_) | refine SX.Store TYok (h := ?_) | refine SX.Lit TYok (h := ?_) | refine SX.App TYok (h := ?_) | refine SX.Box TYok (h := ?_) | refine SC ?_ | (apply S_isnil TYok; exact rfl; exact rfl; exact rfl; exact Ev.auto; intro bn hnil) | (apply W.draw2 (id := 5) [0, 0, 3, 7, 15, 0, 32, 127] [[0], [5], [17, 18], [19], [20], [3], [22], [21, 23]] 8 [(17, 1), (18, 32), (19, 393216), (20, 524288), (21, 1048576), (22, 8), (23, 4194304), (24, 10485760)] mixed (by kernel_rfl) rfl rfl) | (apply W.draw2 (id := 6) [0, 0, 3, 0, 0, 24, 56, 120, 255, 511] [[0], [5], [25, 26], [0], [5], [28, 29], [30], [31], [27, 32]] 9 [(25, 1), (26, 32), (27, 100663296), (28, 1), (29, 32), (30, 805306368), (31, 1073741824), (32, 2147483648), (33, 4429185024)] mixed (by kernel_rfl) rfl rfl) | (apply W.draw2 (id := 12) [0, 1, 0, 0, 8, 0, 56, 120, 252, 508, 1023, 2047, 4095] [[6], [51], [0], [3], [54], [7], [55, 56], [57], [53, 58], [59]] 10 [(51, 64), (52, 2251799813685248), (53, 1), (54, 8), (55, 18014398509481984), (56, 128), (57, 108086391056891904), (58, 144115188075855872), (59, 297237575406452736), (60, 576460752303423488)] mixed (by kernel_rfl) rfl rfl) | (refine W.condA (ht := fun hb => ?_) (hf := fun hb => ?_) <;> (try simp at hb) <;> (try (exfalso; omega))))
  apply W.loopP (σ := Nat) 64 [0, 3, 4] (fun k => k ≤ L.length ∧ (L.take k).any (nameEq s) = false) (fun k => [(5, vI k)]) (fun _ => [(3, ⟨25, 5, [[.int .i64 1, .int .i64 n, .int .i64 u, .str s, .sl (l.map encX)]]⟩), (4, ⟨25, 5, [[.int .i64 0, .int .i64 0, .int .i64 0, .str [], .slnil]]⟩)]) (fun k => L.length - k) (0)
  case hp => repeat (first | exact Pick.nil | apply Pick.cons rfl)
  case h0 =>
    refine ⟨by simp, ?_⟩
    exact Le.auto
  case round =>
    rintro k ⟨h1, h2⟩
    apply W.norm (by repeat (first | exact App.nil | apply App.cons))
    by_cases hk : k < L.length
    · by_cases hn : (nth L k).name = s
      · have c1 := hc k hk
        rw [hh k hk h2 hn, ha] at c1
        repeat' (first | ((first | apply U_ | apply Lex.u | (apply Lex.g; exact rfl; exact rfl) | (apply Lex.gq; exact rfl; exact rfl)); (first | (apply Q_litD TYok; (repeat (first | exact EvR.nil | apply EvR.cons Ev.auto)); exact rfl; exact rfl; exact rfl; exact rfl; exact rfl; exact rfl) | exact QX.B TYok | exact QX.Len TYok | exact QX.Idx TYok | exact QX.Build TYok | exact QX.Cut TYok | exact QCd (c1)); exact rfl) | refine SX.Alloc TYok (h := ?_) | refine SX.Store TYok (h := ?_) | refine SX.Lit TYok (h := ?_) | refine SX.App TYok (h := ?_) | refine SX.Box TYok (h := ?_) | refine SC ?_ | (apply S_isnil TYok; exact rfl; exact rfl; exact rfl; exact Ev.auto; intro bn hnil) | (apply W.draw2 (id := 5) [0, 0, 3, 7, 15, 0, 32, 127] [[0], [5], [17, 18], [19], [20], [3], [22], [21, 23]] 8 [(17, 1), (18, 32), (19, 393216), (20, 524288), (21, 1048576), (22, 8), (23, 4194304), (24, 10485760)] mixed (by kernel_rfl) rfl rfl) | (apply W.draw2 (id := 6) [0, 0, 3, 0, 0, 24, 56, 120, 255, 511] [[0], [5], [25, 26], [0], [5], [28, 29], [30], [31], [27, 32]] 9 [(25, 1), (26, 32), (27, 100663296), (28, 1), (29, 32), (30, 805306368), (31, 1073741824), (32, 2147483648), (33, 4429185024)] mixed (by kernel_rfl) rfl rfl) | (apply W.draw2 (id := 12) [0, 1, 0, 0, 8, 0, 56, 120, 252, 508, 1023, 2047, 4095] [[6], [51], [0], [3], [54], [7], [55, 56], [57], [53, 58], [59]] 10 [(51, 64), (52, 2251799813685248), (53, 1), (54, 8), (55, 18014398509481984), (56, 128), (57, 108086391056891904), (58, 144115188075855872), (59, 297237575406452736), (60, 576460752303423488)] mixed (by kernel_rfl) rfl rfl) | (refine W.condA (ht := fun hb => ?_) (hf := fun hb => ?_) <;> (try simp at hb) <;> (try (exfalso; omega))))
        all_goals first
          | exact FinM.ret ResM.auto
          | (exfalso; omega)
          | (exfalso; exact hb hn)
          | trace_state
      · repeat' (first | ((first | apply U_ | apply Lex.u | (apply Lex.g; exact rfl; exact rfl) | (apply Lex.gq; exact rfl; exact rfl)); (first | (apply Q_litD TYok; (repeat (first | exact EvR.nil | apply EvR.cons Ev.auto)); exact rfl; exact rfl; exact rfl; exact rfl; exact rfl; exact rfl) | exact QX.B TYok | exact QX.Len TYok | exact QX.Idx TYok | exact QX.Build TYok | exact QX.Cut TYok); exact rfl) | refine SX.Alloc TYok (h := ?_) | refine SX.Store TYok (h := ?_) | refine SX.Lit TYok (h := ?_) | refine SX.App TYok (h := ?_) | refine SX.Box TYok (h := ?_) | refine SC ?_ | (apply S_isnil TYok; exact rfl; exact rfl; exact rfl; exact Ev.auto; intro bn hnil) | (apply W.draw2 (id := 5) [0, 0, 3, 7, 15, 0, 32, 127] [[0], [5], [17, 18], [19], [20], [3], [22], [21, 23]] 8 [(17, 1), (18, 32), (19, 393216), (20, 524288), (21, 1048576), (22, 8), (23, 4194304), (24, 10485760)] mixed (by kernel_rfl) rfl rfl) | (apply W.draw2 (id := 6) [0, 0, 3, 0, 0, 24, 56, 120, 255, 511] [[0], [5], [25, 26], [0], [5], [28, 29], [30], [31], [27, 32]] 9 [(25, 1), (26, 32), (27, 100663296), (28, 1), (29, 32), (30, 805306368), (31, 1073741824), (32, 2147483648), (33, 4429185024)] mixed (by kernel_rfl) rfl rfl) | (apply W.draw2 (id := 12) [0, 1, 0, 0, 8, 0, 56, 120, 252, 508, 1023, 2047, 4095] [[6], [51], [0], [3], [54], [7], [55, 56], [57], [53, 58], [59]] 10 [(51, 64), (52, 2251799813685248), (53, 1), (54, 8), (55, 18014398509481984), (56, 128), (57, 108086391056891904), (58, 144115188075855872), (59, 297237575406452736), (60, 576460752303423488)] mixed (by kernel_rfl) rfl rfl) | (refine W.condA (ht := fun hb => ?_) (hf := fun hb => ?_) <;> (try simp at hb) <;> (try (exfalso; omega))))
        all_goals first
          | (refine ⟨k + 1, ⟨by omega, by rw [any_take hk, h2]; exact decide_eq_false hn⟩, ?_, by (try simp only); omega⟩; exact Le.auto)
          | (exfalso; omega)
          | (exfalso; exact hn hb)
          | trace_state
    · obtain rfl : k = L.length := by omega
      rw [List.take_length] at h2
      have e := hm h2
      subst e
      rw [← ha, aE_mk]
      repeat' (first | ((first | apply U_ | apply Lex.u | (apply Lex.g; exact rfl; exact rfl) | (apply Lex.gq; exact rfl; exact rfl)); (first | (apply Q_litD TYok; (repeat (first | exact EvR.nil | apply EvR.cons Ev.auto)); exact rfl; exact rfl; exact rfl; exact rfl; exact rfl; exact rfl) | exact QX.B TYok | exact QX.Len TYok | exact QX.Idx TYok | exact QX.Build TYok | exact QX.Cut TYok); exact rfl) | refine SX.Alloc TYok (h := ?_) | refine SX.Store TYok (h := ?_) | refine SX.Lit TYok (h := ?_) | refine SX.App TYok (h := ?_) | refine SX.Box TYok (h := ?_) | refine SC ?_ | (apply S_isnil TYok; exact rfl; exact rfl; exact rfl; exact Ev.auto; intro bn hnil) | (apply W.draw2 (id := 5) [0, 0, 3, 7, 15, 0, 32, 127] [[0], [5], [17, 18], [19], [20], [3], [22], [21, 23]] 8 [(17, 1), (18, 32), (19, 393216), (20, 524288), (21, 1048576), (22, 8), (23, 4194304), (24, 10485760)] mixed (by kernel_rfl) rfl rfl) | (apply W.draw2 (id := 6) [0, 0, 3, 0, 0, 24, 56, 120, 255, 511] [[0], [5], [25, 26], [0], [5], [28, 29], [30], [31], [27, 32]] 9 [(25, 1), (26, 32), (27, 100663296), (28, 1), (29, 32), (30, 805306368), (31, 1073741824), (32, 2147483648), (33, 4429185024)] mixed (by kernel_rfl) rfl rfl) | (apply W.draw2 (id := 12) [0, 1, 0, 0, 8, 0, 56, 120, 252, 508, 1023, 2047, 4095] [[6], [51], [0], [3], [54], [7], [55, 56], [57], [53, 58], [59]] 10 [(51, 64), (52, 2251799813685248), (53, 1), (54, 8), (55, 18014398509481984), (56, 128), (57, 108086391056891904), (58, 144115188075855872), (59, 297237575406452736), (60, 576460752303423488)] mixed (by kernel_rfl) rfl rfl) | (refine W.condA (ht := fun hb => ?_) (hf := fun hb => ?_) <;> (try simp at hb) <;> (try (exfalso; omega))))
      all_goals first
        | exact FinM.ret ResM.auto
        | (exfalso; omega)
        | trace_state
theorem Le.slaOwn {A : St} {t tt n b c len : Nat} {C : Blk} {f : Nat → Value} (ht : lk A.env t = some (True, .pv (.one (.sla b len c)))) (hp : lk A.env tt = some (True, .pin n b c f)) (hC : lk A.blks n = some C) (hlen : C.rows.length = len) : Le A (A.set t True (.slc n)) := fun G Φ β a w hs => by
  refine ⟨Φ, β, Φ.le_refl, hs.kept, hs.fits, hs.old, hs.siz, hs.dfr, fun s q v' h => ?_, hs.blk, hs.vir, hs.inj⟩
  simp only [St.set] at h
  rw [lk_cons] at h
  split at h
  · rename_i e; subst e
    simp only [Option.some.injEq, Prod.mk.injEq] at h
    obtain ⟨rfl, rfl⟩ := h
    refine ⟨fun _ => ?_, fun hq => (hq trivial).elim⟩
    obtain ⟨B, h1, h2, h3, _⟩ := (hs.env tt True _ hp).1 trivial
    have h4 : Rel Φ _ (.sla b len c) := (hs.env t True _ ht).1 trivial
    rw [hC] at h2
    obtain rfl := Option.some.inj h2
    exact ⟨C, hC, h3, .inr ⟨b, c, h1, by rw [hlen]; exact rel_sla h4⟩⟩
  · exact hs.env s q v' h
theorem repl_node (L : List Let) (hL : L.length ≤ 20) {op n u : Int} {s : Str} {l : List Exp} (hop : op ≠ 1) (hl : l.length ≤ 3) (R : Exp → Exp) (hc : ∀ x ∈ l, ACalls Tryz.prog 13 [.one (.sl (L.map encL)), aE x] (.pv (aE (R x)))) :
    ACalls Tryz.prog 13 [.one (.sl (L.map encL)), .agg [.int .i64 op, .int .i64 n, .int .i64 u, .str s, .sl (l.map encX)]] (.pv (aE (.mk op n u s (l.map R)))) := by
  rw [aE_mk]
  refine ACalls.of_M TYok (qs := [.agg [.int .i64 op, .int .i64 n, .int .i64 u, .str s, .sl ((l.map R).map encX)]]) [.cell 4 25] 64 Tryz.func13 (by kernel_rfl) rfl rfl rfl fun G => W.fin ?_
  refine W.initA (hw := ?_)
  repeat' (first | ((first | apply U_ | apply Lex.u | (apply Lex.g; exact rfl; exact rfl) | (apply Lex.gq; exact rfl; exact rfl)); (first | (apply Q_litD TYok; (repeat (first | exact EvR.nil | apply EvR.cons Ev.auto)); exact rfl; exact rfl; exact rfl; exact rfl; exact rfl; exact rfl) | exact QX.B TYok | exact QX.Len TYok | exact QX.Idx TYok | exact QX.Build TYok | exact QX.Cut TYok); exact rfl) | refine SX.Alloc TYok (h := ?_) | refine SX.Store TYok (h := ?_) | refine SX.Lit TYok (h := ?_) | refine SX.App TYok (h := ?_) | refine SX.Box TYok (h := ?_) | refine SC ?_ | (apply S_isnil TYok; exact rfl; exact rfl; exact rfl; exact Ev.auto; intro bn hnil) | (apply W.draw2 (id := 5) [0, 0, 3, 7, 15, 0, 32, 127] [[0], [5], [17, 18], [19], [20], [3], [22], [21, 23]] 8 [(17, 1), (18, 32), (19, 393216), (20, 524288), (21, 1048576), (22, 8), (23, 4194304), (24, 10485760)] mixed (by kernel_rfl) rfl rfl) | (apply W.draw2 (id := 6) [0, 0, 3, 0, 0, 24, 56, 120, 255, 511] [[0], [5], [25, 26], [0], [5], [28, 29], [30], [31], [27, 32]] 9 [(25, 1), (26, 32), (27, 100663296), (28, 1), (29, 32), (30, 805306368), (31, 1073741824), (32, 2147483648), (33, 4429185024)] mixed (by kernel_rfl) rfl rfl) | (apply W.draw2 (id := 12) [0, 1, 0, 0, 8, 0, 56, 120, 252, 508, 1023, 2047, 4095] [[6], [51], [0], [3], [54], [7], [55, 56], [57], [53, 58], [59]] 10 [(51, 64), (52, 2251799813685248), (53, 1), (54, 8), (55, 18014398509481984), (56, 128), (57, 108086391056891904), (58, 144115188075855872), (59, 297237575406452736), (60, 576460752303423488)] mixed (by kernel_rfl) rfl rfl) | (refine W.condA (ht := fun hb => ?_) (hf := fun hb => ?_) <;> (try simp at hb) <;> (try (exfalso; omega))))
  apply W.loopP (σ := Nat × Nat × Nat) 64 [0, 3, 4, 6] (fun (k, b, c) => k ≤ l.length) (fun (k, b, c) => (match k with | 0 => [(7, vI 0)] | k + 1 => [(7, vI ((k + 1 : Nat) : Int)), (61, (True, .pin 61 b c (slcV b c)))])) (fun (k, b, c) => (match k with | 0 => [(3, ⟨25, 5, [[.int .i64 op, .int .i64 n, .int .i64 u, .str s, .sl (l.map encX)]]⟩), (4, ⟨25, 5, [[.int .i64 0, .int .i64 0, .int .i64 0, .str [], .slnil]]⟩), (6, ⟨25, 5, [[.int .i64 op, .int .i64 n, .int .i64 u, .str s, .slnil]]⟩)] | k + 1 => [(3, ⟨25, 5, [[.int .i64 op, .int .i64 n, .int .i64 u, .str s, .sl (l.map encX)]]⟩), (4, ⟨25, 5, [[.int .i64 0, .int .i64 0, .int .i64 0, .str [], .slnil]]⟩), (6, ⟨25, 5, [[.int .i64 op, .int .i64 n, .int .i64 u, .str s, .sla b (((l.map R).map encX).take (k + 1)).length c]]⟩), (61, ⟨25, 5, ((l.map R).map encX).take (k + 1)⟩)])) (fun (k, b, c) => l.length - k) ((0, 0, 0))
  case hp => repeat (first | exact Pick.nil | apply Pick.cons rfl)
  case h0 =>
    refine ⟨by simp, ?_⟩
    exact Le.auto
  case round =>
    rintro ⟨_ | k, b, c⟩ hk1
    · dsimp only
      apply W.norm (by repeat (first | exact App.nil | apply App.cons))
      by_cases hk : 0 < l.length
      · have c1 := hc _ (nth_mem hk)
        have e1 : ((l.map R).map encX).take (0 + 1) = [encX (R (nth l 0))] := by
          obtain ⟨x, r, rfl⟩ : ∃ x r, l = x :: r := by cases l with | nil => simp at hk | cons x r => exact ⟨x, r, rfl⟩
          rw [nth0]; rfl
        generalize R (nth l 0) = Y at *
        repeat' (first | (refine RG.weaken (Le.nilOwn (t := 52) (n := 52) (E := 25) (sz := 5) rfl) ?_) | (refine RG.place (t := 61) rfl rfl (fun b1 c1 => ?_) (fun hz => absurd hz (by simp))) | ((first | apply U_ | apply Lex.u | (apply Lex.g; exact rfl; exact rfl) | (apply Lex.gq; exact rfl; exact rfl)); (first | (apply Q_litD TYok; (repeat (first | exact EvR.nil | apply EvR.cons Ev.auto)); exact rfl; exact rfl; exact rfl; exact rfl; exact rfl; exact rfl) | (apply Q_litD TYok; apply EvR.cons Ev.auto; (repeat (first | exact EvR.nil | apply EvR.cons Ev.auto)); exact rfl; exact rfl; exact rfl; exact rfl; exact rfl; exact rfl) | exact QX.B TYok | exact QX.Len TYok | exact QX.Idx TYok | exact QX.Build TYok | exact QX.Cut TYok | exact QCd (c1)); exact rfl) | refine SX.Alloc TYok (h := ?_) | refine SX.Store TYok (h := ?_) | refine SX.Lit TYok (h := ?_) | refine SX.App TYok (h := ?_) | refine SX.Box TYok (h := ?_) | (apply S_appendd TYok; exact Ev.auto; exact Ev.auto; exact rfl; exact rfl; exact rfl; exact rfl; exact rfl; exact rfl; exact rfl; exact rfl; (intro r hr; first | (obtain ⟨_, _, rfl⟩ := List.mem_map.1 hr; rfl) | (obtain rfl := List.mem_singleton.1 hr; rfl)); (constructor <;> simp <;> omega); exact rfl) | (apply S_storeO TYok; exact Ev.auto; exact rfl; exact rfl; exact rfl; exact rfl; exact rfl; exact rfl; exact rfl; (first | (focus (simp; done)) | exact Nat.le_of_ble_eq_true rfl)) | refine SC ?_ | (apply S_isnil TYok; exact rfl; exact rfl; exact rfl; exact Ev.auto; intro bn hnil) | (apply W.draw2 (id := 5) [0, 0, 3, 7, 15, 0, 32, 127] [[0], [5], [17, 18], [19], [20], [3], [22], [21, 23]] 8 [(17, 1), (18, 32), (19, 393216), (20, 524288), (21, 1048576), (22, 8), (23, 4194304), (24, 10485760)] mixed (by kernel_rfl) rfl rfl) | (apply W.draw2 (id := 6) [0, 0, 3, 0, 0, 24, 56, 120, 255, 511] [[0], [5], [25, 26], [0], [5], [28, 29], [30], [31], [27, 32]] 9 [(25, 1), (26, 32), (27, 100663296), (28, 1), (29, 32), (30, 805306368), (31, 1073741824), (32, 2147483648), (33, 4429185024)] mixed (by kernel_rfl) rfl rfl) | (apply W.draw2 (id := 12) [0, 1, 0, 0, 8, 0, 56, 120, 252, 508, 1023, 2047, 4095] [[6], [51], [0], [3], [54], [7], [55, 56], [57], [53, 58], [59]] 10 [(51, 64), (52, 2251799813685248), (53, 1), (54, 8), (55, 18014398509481984), (56, 128), (57, 108086391056891904), (58, 144115188075855872), (59, 297237575406452736), (60, 576460752303423488)] mixed (by kernel_rfl) rfl rfl) | (refine W.condA (ht := fun hb => ?_) (hf := fun hb => ?_) <;> (try simp at hb) <;> (try (exfalso; omega))))
        all_goals first
          | (exfalso; omega)
          | (exfalso; rw [hb] at hk; simp at hk; done)
          | (refine ⟨(0 + 1, b1, c1), hk, ?_, by (first | omega | (simp only; omega))⟩; dsimp only; simp only [e1]; exact Le.auto)
          | trace_state
      · have hl0 : l = [] := List.length_eq_zero_iff.1 (by omega)
        subst hl0
        repeat' (first | ((first | apply U_ | apply Lex.u | (apply Lex.g; exact rfl; exact rfl) | (apply Lex.gq; exact rfl; exact rfl)); (first | (apply Q_litD TYok; (repeat (first | exact EvR.nil | apply EvR.cons Ev.auto)); exact rfl; exact rfl; exact rfl; exact rfl; exact rfl; exact rfl) | exact QX.B TYok | exact QX.Len TYok | exact QX.Idx TYok | exact QX.Build TYok | exact QX.Cut TYok); exact rfl) | refine SX.Alloc TYok (h := ?_) | refine SX.Store TYok (h := ?_) | refine SX.Lit TYok (h := ?_) | refine SX.App TYok (h := ?_) | refine SX.Box TYok (h := ?_) | refine SC ?_ | (apply S_isnil TYok; exact rfl; exact rfl; exact rfl; exact Ev.auto; intro bn hnil) | (apply W.draw2 (id := 5) [0, 0, 3, 7, 15, 0, 32, 127] [[0], [5], [17, 18], [19], [20], [3], [22], [21, 23]] 8 [(17, 1), (18, 32), (19, 393216), (20, 524288), (21, 1048576), (22, 8), (23, 4194304), (24, 10485760)] mixed (by kernel_rfl) rfl rfl) | (apply W.draw2 (id := 6) [0, 0, 3, 0, 0, 24, 56, 120, 255, 511] [[0], [5], [25, 26], [0], [5], [28, 29], [30], [31], [27, 32]] 9 [(25, 1), (26, 32), (27, 100663296), (28, 1), (29, 32), (30, 805306368), (31, 1073741824), (32, 2147483648), (33, 4429185024)] mixed (by kernel_rfl) rfl rfl) | (apply W.draw2 (id := 12) [0, 1, 0, 0, 8, 0, 56, 120, 252, 508, 1023, 2047, 4095] [[6], [51], [0], [3], [54], [7], [55, 56], [57], [53, 58], [59]] 10 [(51, 64), (52, 2251799813685248), (53, 1), (54, 8), (55, 18014398509481984), (56, 128), (57, 108086391056891904), (58, 144115188075855872), (59, 297237575406452736), (60, 576460752303423488)] mixed (by kernel_rfl) rfl rfl) | (refine W.condA (ht := fun hb => ?_) (hf := fun hb => ?_) <;> (try simp at hb) <;> (try (exfalso; omega))))
        all_goals first
          | (exfalso; omega)
          | (refine ⟨_, Le.refl, FinM.ret (ResM.cell rfl rfl rfl rfl ?_ ResM.nil)⟩
             show LSub [_, _, _, _, _] [_, _, _, _, _]
             exact ⟨.refl _, .refl _, .refl _, .refl _, .nil, trivial⟩)
          | trace_state
    · dsimp only
      apply W.norm (by repeat (first | exact App.nil | apply App.cons))
      have hlen : (((l.map R).map encX).take (k + 1)).length = k + 1 := by
        rw [List.length_take, List.length_map, List.length_map]
        have : k + 1 ≤ l.length := hk1
        omega
      by_cases hk : k + 1 < l.length
      · have c1 := hc _ (nth_mem hk)
        have e1 : ((l.map R).map encX).take (k + 1 + 1) = ((l.map R).map encX).take (k + 1) ++ [encX (R (nth l (k + 1)))] := by
          rw [List.map_map, ← List.map_take, ← List.map_take, take_nth hk, List.map_append]; rfl
        have e2 : (((l.map R).map encX).take (k + 1) ++ [encX (R (nth l (k + 1)))]).length = (((l.map R).map encX).take (k + 1)).length + 1 := by rw [List.length_append]; rfl
        generalize hY : R (nth l (k + 1)) = Y at *
        generalize hT : ((l.map R).map encX).take (k + 1) = T at *
        repeat' (first | (refine RG.weaken (Le.slaOwn (t := 52) (tt := 61) (n := 61) rfl rfl rfl rfl) ?_) | (refine RG.place (t := 61) rfl rfl (fun b1 c1 => ?_) (fun hz => absurd hz (by simp))) | ((first | apply U_ | apply Lex.u | (apply Lex.g; exact rfl; exact rfl) | (apply Lex.gq; exact rfl; exact rfl)); (first | (apply Q_litD TYok; (repeat (first | exact EvR.nil | apply EvR.cons Ev.auto)); exact rfl; exact rfl; exact rfl; exact rfl; exact rfl; exact rfl) | (apply Q_litD TYok; apply EvR.cons Ev.auto; (repeat (first | exact EvR.nil | apply EvR.cons Ev.auto)); exact rfl; exact rfl; exact rfl; exact rfl; exact rfl; exact rfl) | exact QX.B TYok | exact QX.Len TYok | exact QX.Idx TYok | exact QX.Build TYok | exact QX.Cut TYok | exact QCd (c1)); exact rfl) | refine SX.Alloc TYok (h := ?_) | refine SX.Store TYok (h := ?_) | refine SX.Lit TYok (h := ?_) | refine SX.App TYok (h := ?_) | refine SX.Box TYok (h := ?_) | (apply S_appendd TYok; exact Ev.auto; exact Ev.auto; exact rfl; exact rfl; exact rfl; exact rfl; exact rfl; exact rfl; exact rfl; exact rfl; (intro r hr; first | (obtain ⟨_, _, rfl⟩ := List.mem_map.1 hr; rfl) | (obtain rfl := List.mem_singleton.1 hr; rfl)); (constructor <;> simp <;> omega); exact rfl) | (apply S_storeO TYok; exact Ev.auto; exact rfl; exact rfl; exact rfl; exact rfl; exact rfl; exact rfl; exact rfl; (first | (focus (simp; done)) | exact Nat.le_of_ble_eq_true rfl)) | refine SC ?_ | (apply S_isnil TYok; exact rfl; exact rfl; exact rfl; exact Ev.auto; intro bn hnil) | (apply W.draw2 (id := 5) [0, 0, 3, 7, 15, 0, 32, 127] [[0], [5], [17, 18], [19], [20], [3], [22], [21, 23]] 8 [(17, 1), (18, 32), (19, 393216), (20, 524288), (21, 1048576), (22, 8), (23, 4194304), (24, 10485760)] mixed (by kernel_rfl) rfl rfl) | (apply W.draw2 (id := 6) [0, 0, 3, 0, 0, 24, 56, 120, 255, 511] [[0], [5], [25, 26], [0], [5], [28, 29], [30], [31], [27, 32]] 9 [(25, 1), (26, 32), (27, 100663296), (28, 1), (29, 32), (30, 805306368), (31, 1073741824), (32, 2147483648), (33, 4429185024)] mixed (by kernel_rfl) rfl rfl) | (apply W.draw2 (id := 12) [0, 1, 0, 0, 8, 0, 56, 120, 252, 508, 1023, 2047, 4095] [[6], [51], [0], [3], [54], [7], [55, 56], [57], [53, 58], [59]] 10 [(51, 64), (52, 2251799813685248), (53, 1), (54, 8), (55, 18014398509481984), (56, 128), (57, 108086391056891904), (58, 144115188075855872), (59, 297237575406452736), (60, 576460752303423488)] mixed (by kernel_rfl) rfl rfl) | (refine W.condA (ht := fun hb => ?_) (hf := fun hb => ?_) <;> (try simp at hb) <;> (try (exfalso; omega))))
        all_goals first
          | (exfalso; omega)
          | (refine ⟨(k + 1 + 1, b1, c1), hk, ?_, by (first | omega | (simp only; omega))⟩; dsimp only; simp only [e1]; exact Le.auto)
          | trace_state
      · have hl1 : k + 1 = l.length := by simp only at hk1; omega
        have hn : ((l.map R).map encX).take (k + 1) = (l.map R).map encX := List.take_of_length_le (by simp; omega)
        simp only [hn] at hlen ⊢
        generalize (l.map R).map encX = T at *
        repeat' (first | ((first | apply U_ | apply Lex.u | (apply Lex.g; exact rfl; exact rfl) | (apply Lex.gq; exact rfl; exact rfl)); (first | (apply Q_litD TYok; (repeat (first | exact EvR.nil | apply EvR.cons Ev.auto)); exact rfl; exact rfl; exact rfl; exact rfl; exact rfl; exact rfl) | (apply Q_loadO TYok (tt := 61); exact rfl; exact rfl; exact rfl; exact rfl; exact rfl; exact rfl; exact Ev.auto; exact rfl; exact rfl; exact rfl; (first | exact rfl | (focus (simp; done)))) | exact QX.B TYok | exact QX.Len TYok | exact QX.Idx TYok | exact QX.Build TYok | exact QX.Cut TYok); exact rfl) | refine SX.Alloc TYok (h := ?_) | refine SX.Store TYok (h := ?_) | refine SX.Lit TYok (h := ?_) | refine SX.App TYok (h := ?_) | refine SX.Box TYok (h := ?_) | refine SC ?_ | (apply S_isnil TYok; exact rfl; exact rfl; exact rfl; exact Ev.auto; intro bn hnil) | (apply W.draw2 (id := 5) [0, 0, 3, 7, 15, 0, 32, 127] [[0], [5], [17, 18], [19], [20], [3], [22], [21, 23]] 8 [(17, 1), (18, 32), (19, 393216), (20, 524288), (21, 1048576), (22, 8), (23, 4194304), (24, 10485760)] mixed (by kernel_rfl) rfl rfl) | (apply W.draw2 (id := 6) [0, 0, 3, 0, 0, 24, 56, 120, 255, 511] [[0], [5], [25, 26], [0], [5], [28, 29], [30], [31], [27, 32]] 9 [(25, 1), (26, 32), (27, 100663296), (28, 1), (29, 32), (30, 805306368), (31, 1073741824), (32, 2147483648), (33, 4429185024)] mixed (by kernel_rfl) rfl rfl) | (apply W.draw2 (id := 12) [0, 1, 0, 0, 8, 0, 56, 120, 252, 508, 1023, 2047, 4095] [[6], [51], [0], [3], [54], [7], [55, 56], [57], [53, 58], [59]] 10 [(51, 64), (52, 2251799813685248), (53, 1), (54, 8), (55, 18014398509481984), (56, 128), (57, 108086391056891904), (58, 144115188075855872), (59, 297237575406452736), (60, 576460752303423488)] mixed (by kernel_rfl) rfl rfl) | (refine W.condA (ht := fun hb => ?_) (hf := fun hb => ?_) <;> (try simp at hb) <;> (try (exfalso; omega))))
        all_goals first
          | (exfalso; omega)
          | exact ⟨_, Le.freezeK (row' := [.int .i64 op, .int .i64 n, .int .i64 u, .str s, .sl T]) (m := 4) (t := 61) (n := 61) rfl rfl rfl rfl rfl (by decide) (by exact ⟨.refl _, .refl _, .refl _, .refl _, .sla, trivial⟩), FinM.ret ResM.auto⟩
          | trace_state
end
end Go.Proofs.YtjedkgogjehigaaGreat
end
section
set_option linter.unusedVariables false
set_option linter.unusedSimpArgs false
set_option maxHeartbeats 8000000
set_option linter.unusedSectionVars false
namespace Go.Proofs.YtjedkgogjehigaaGreat
open Lf Go
attribute [local irreducible] PureOp EffOp Ev RG W Then InBlock Lf.Fin nth App InitE Pick SubE EvL EvD EvP EvR ResL Lf.Lex SubR SubBR RA RAll EvC FinO FinM ResM ResD FinS val pw digs trimL
section
variable {lets : List Let} {en : EnvQ}
theorem right_len {d : Nat} {op n u : Int} {s : Str} {l : List Exp} (h : rightF (d + 1) (.mk op n u s l) = true) : l.length ≤ 3 := by
  rw [rightF] at h
  simp only [Bool.and_eq_true, decide_eq_true_iff] at h
  have := opsF_cases h.1
  omega
/-- the parts of a right expression are right -/
theorem right_kids {d : Nat} {op n u : Int} {s : Str} {l : List Exp} (h : rightF (d + 1) (.mk op n u s l) = true) : ∀ x ∈ l, rightF d x = true := by
  rw [rightF] at h
  simp only [Bool.and_eq_true, decide_eq_true_iff] at h
  obtain ⟨h1, h2⟩ := h
  rcases opsF_cases h1 with ⟨q, hk⟩ | ⟨q, hk⟩ | ⟨q, hk⟩ | ⟨q, hk⟩
  · have hl : l = [] := List.length_eq_zero_iff.1 hk
    subst hl
    intro x hx; cases hx
  all_goals (
    rw [if_neg (by omega), if_neg (by omega)] at h2
    split at h2
    · simp only [Bool.and_eq_true, List.all_eq_true] at h2; exact h2.2
    · simp only [Bool.and_eq_true, List.all_eq_true] at h2; exact h2.2)
theorem repl_ok (hL : LetsOk lets) : ∀ (n : Nat), n ≤ lets.length → ∀ (d : Nat) (e : Exp), rightF d e = true → ACalls Tryz.prog 13 [.one (.sl ((lets.take n).map encL)), aE e] (.pv (aE (repF lets (repT lets n) e))) := by
  intro n
  induction n using Nat.strongRecOn with
  | _ n ihn =>
  intro hn d
  have hlen : (lets.take n).length = n := by rw [List.length_take]; omega
  induction d with
  | zero => intro e hr; obtain ⟨op, k, u, s, l⟩ := e; rw [rightF] at hr; cases hr
  | succ d ih =>
  intro e hr
  obtain ⟨op, k, u, s, l⟩ := e
  rw [aE_mk, repF_mk]
  by_cases h1 : op = 1
  · subst h1
    rw [if_pos rfl, lookR, repT_len]
    refine repl_name (lets.take n) (by have := hL.1; omega) k u s l (.mk 1 k u s l) (repT lets n) (fun i hi => ?_) (by rw [repT_len, hlen])
    rw [hlen] at hi
    rw [take_map, List.take_take, Nat.min_eq_left (by omega), nth_take hi, repT_nth lets hi]
    exact ihn i hi (by omega) 12 _ (statF_yes (hL.2 _ (nth_mem (show i < lets.length by omega))).1).1
  · rw [if_neg h1]
    exact repl_node (lets.take n) (by have := hL.1; omega) h1 (right_len hr) _ (fun x hx => ih x (right_kids hr x hx))
theorem repl_okE (hL : LetsOk lets) : ∀ (n : Nat), n ≤ lets.length → ∀ (e : Exp), OkE e → OkE (repF lets (repT lets n) e) := by
  intro n
  induction n using Nat.strongRecOn with
  | _ n ihn =>
  intro hn
  refine Exp.ind fun op k u s l ih he => ?_
  rw [repF_mk]
  split
  · rw [lookR, repT_len]
    split
    · rename_i hop ha
      have hin := hit_ix hn ha rfl
      rw [repT_nth lets hin]
      exact ihn _ hin (by omega) _ (hL.2 _ (nth_mem (by omega))).2
    · exact he
  · cases he with
    | mk hs hl hx =>
    exact .mk hs (by rw [List.length_map]; exact hl) (fun x hx' => by
      obtain ⟨y, hy, rfl⟩ := List.mem_map.1 hx'
      exact ih y hy (hx y hy))
theorem step_free {vs : List Rs} {op n u : Int} {s : Str} {A : List Rs} (h : op ≠ 1) : stepF lets en vs op n u s A = stepF [] en [] op n u s A := by
  unfold stepF
  by_cases h0 : op = 0
  · rw [if_pos h0, if_pos h0]
  · rw [if_neg h0, if_neg h0, if_neg h, if_neg h]
/-- THE LAW: names that are replaced make no difference -/
theorem repl_val : ∀ (n : Nat), n ≤ lets.length → ∀ (e : Exp), evF lets en (tabF lets en n) e = evF [] en [] (repF lets (repT lets n) e) := by
  intro n
  induction n using Nat.strongRecOn with
  | _ n ihn =>
  intro hn
  refine Exp.ind fun op k u s l ih => ?_
  rw [repF_mk]
  split
  · rename_i hop
    subst hop
    rw [ev_name, lookN, lookR, tabF_len, repT_len]
    split
    · rename_i ha
      have hin := hit_ix hn ha rfl
      rw [repT_nth lets hin, tabF_nth lets en hin]
      exact ihn _ hin (by omega) _
    · rw [ev_name, lookN]; rfl
  · rename_i hop
    rw [evF_mk, evF_mk, step_free hop, List.map_map]
    congr 1
    exact List.map_congr_left fun x hx => ih x hx
end
end Go.Proofs.YtjedkgogjehigaaGreat
end
section
set_option linter.unusedVariables false
set_option linter.unusedSimpArgs false
set_option maxHeartbeats 8000000
set_option linter.unusedSectionVars false
namespace Go.Proofs.YtjedkgogjehigaaGreat
open Lf Go
attribute [local irreducible] PureOp EffOp Ev RG W Then InBlock Lf.Fin nth App InitE Pick SubE EvL EvD EvP EvR ResL Lf.Lex SubR SubBR RA RAll EvC FinO FinM ResM ResD FinS val pw digs trimL
section
variable {lets L : List Let} {us : List Int} {en : EnvQ}
theorem binF_14 (op : Int) (a b : Rat) : binF op a b ≠ .err 14 := by
  unfold binF addR subR mulR divR
  intro h
  split at h <;> (repeat' split at h) <;> simp at h
mutual
def plainF : Exp → Bool
  | .mk op _ _ _ l => !decide (op = 1) && plainFs l
def plainFs : List Exp → Bool
  | [] => true
  | e :: r => plainF e && plainFs r
end
theorem plainFs_all : ∀ l, plainFs l = l.all plainF
  | [] => rfl
  | e :: r => by rw [plainFs, plainFs_all r]; rfl
theorem nth_ne14 {l : List Rs} (h : ∀ x ∈ l, x ≠ .err 14) (j : Nat) : nth l j ≠ .err 14 := by
  by_cases hj : j < l.length
  · exact h _ (nth_mem hj)
  · rw [nth, List.getD_eq_getElem?_getD, List.getElem?_eq_none (by omega)]
    intro q
    have : (Rs.err 0) = .err 14 := q
    simp at this
theorem plain_14 (e : Exp) : plainF e = true → knowF en.names en.iss e = true → evF [] en [] e ≠ .err 14 := by
  refine Exp.ind (P := fun e => plainF e = true → knowF en.names en.iss e = true → evF [] en [] e ≠ .err 14) (fun op n u s l ih h1 h2 => ?_) e
  rw [plainF, plainFs_all] at h1
  rw [knowF, knowFs_all] at h2
  simp only [Bool.and_eq_true, Bool.not_eq_true', decide_eq_false_iff_not, Bool.or_eq_false_iff, Bool.and_eq_false_iff, Bool.not_eq_false', List.all_eq_true] at h1 h2
  obtain ⟨p1, p2⟩ := h1
  obtain ⟨⟨k1, k2⟩, k3⟩ := h2
  have key : ∀ j, nth (l.map (evF [] en [])) j ≠ .err 14 := nth_ne14 fun x hx => by
    obtain ⟨y, hy, rfl⟩ := List.mem_map.1 hx
    exact ih y hy (p2 y hy) (k3 y hy)
  have mem : ∀ {N : List Str}, hasS N s = true → s ∈ N := fun {N} h => by
    obtain ⟨y, hy, e⟩ := List.any_eq_true.1 h
    rw [← of_decide_eq_true e]; exact hy
  rw [evF_mk, stepF]
  by_cases h0 : op = 0
  · rw [if_pos h0]; intro h; cases h
  rw [if_neg h0, if_neg p1]
  by_cases h2 : op = 2
  · rw [if_pos h2, lookF, if_pos (mem (by rcases k1 with h | h; exact absurd h2 h; exact h))]; intro h; cases h
  rw [if_neg h2]
  by_cases h3 : op = 3
  · rw [if_pos h3, lookF, if_pos (mem (by rcases k2 with h | h; exact absurd h3 h; exact h))]; intro h; cases h
  rw [if_neg h3]
  have q0 := key 0
  have q1 := key 1
  have q2 := key 2
  generalize nth (l.map (evF [] en [])) 0 = R0 at *
  generalize nth (l.map (evF [] en [])) 1 = R1 at *
  generalize nth (l.map (evF [] en [])) 2 = R2 at *
  cases R0 with
  | err e => exact q0
  | ok a =>
    dsimp only
    split
    · intro h; cases h
    split
    · split
      · exact q2
      · exact q1
    split
    · intro h; cases h
    · cases R1 with
      | err e => exact q1
      | ok b => exact binF_14 op a b
theorem bad_ne (e : Exp) : ∀ path p x, ofU L us e path = .bad p x → x ≠ 0 := by
  refine Exp.ind (P := fun e => ∀ path p x, ofU L us e path = .bad p x → x ≠ 0) (fun op n u s l ih path p x h => ?_) e
  rw [ofU] at h
  unfold nodeU at h
  by_cases h0 : op = 0
  · rw [if_pos h0] at h; cases h
  rw [if_neg h0] at h
  by_cases h2 : op = 2
  · rw [if_pos h2] at h; cases h
  rw [if_neg h2] at h
  by_cases h3 : op = 3
  · rw [if_pos h3] at h; cases h
  rw [if_neg h3] at h
  by_cases h1 : op = 1
  · rw [if_pos h1] at h
    split at h
    · injection h with _ h; omega
    · cases h
  rw [if_neg h1] at h
  cases hA : argsU L us l path 0 with
  | bad p' x' =>
    rw [hA] at h
    injection h with _ h
    subst h
    obtain ⟨k, hk, _, hz⟩ := args_bad l path 0 p' x' hA
    exact ih _ (nth_mem hk) _ _ _ hz
  | ok vs =>
    rw [hA] at h
    dsimp only at h
    split at h
    · injection h with _ h; omega
    · cases h
theorem okT {e : Exp} {path : List Int} (h : (ofU L us e path).t.e = 0) : ofU L us e path = .ok (ofU L us e path).t.u := by
  cases hR : ofU L us e path with
  | ok u => rfl
  | bad p x => rw [hR] at h; exact absurd h (bad_ne e _ _ _ hR)
/-- a name with a unit -/
theorem name_unit {n : Nat} (hn : n ≤ lets.length) {s : Str} (h : nameU (lets.take n) (tabU lets n) s ≠ -1) : (lets.take n).any (nameEq s) = true ∧ (lets.take n).findIdx (nameEq s) < n ∧
    ofU (lets.take ((lets.take n).findIdx (nameEq s))) (tabU lets ((lets.take n).findIdx (nameEq s))) (nth lets ((lets.take n).findIdx (nameEq s))).body [] = .ok (nameU (lets.take n) (tabU lets n) s) := by
  unfold nameU at h ⊢
  cases ha : (lets.take n).any (nameEq s) with
  | false => rw [ha] at h; simp at h
  | true =>
    rw [ha, if_pos rfl] at h
    have hi := List.findIdx_lt_length_of_exists (List.any_eq_true.1 ha)
    rw [List.length_take] at hi
    have hi2 : (lets.take n).findIdx (nameEq s) < n := by omega
    refine ⟨rfl, hi2, ?_⟩
    rw [if_pos rfl]
    rw [tabU_nth lets hi2] at h ⊢
    split at h
    · rename_i he
      rw [if_pos he]
      exact okT he
    · exact absurd rfl h
theorem leaf_nil {d : Nat} {op n u : Int} {s : Str} {l : List Exp} (h : rightF d (.mk op n u s l) = true) (ho : op = 0 ∨ op = 2 ∨ op = 3) : l = [] := by
  cases d with
  | zero => rw [rightF] at h; cases h
  | succ d =>
    rw [rightF] at h
    simp only [Bool.and_eq_true, decide_eq_true_iff] at h
    have := opsF_cases h.1
    exact List.length_eq_zero_iff.1 (by omega)
theorem node_args {op u r : Int} {s : Str} {path : List Int} {a : UA} (hop : op ≠ 0 ∧ op ≠ 1 ∧ op ≠ 2 ∧ op ≠ 3) (h : nodeU L us op u s path a = .ok r) : ∃ vs, a = .ok vs ∧ joinF op vs = r ∧ r ≠ -1 := by
  unfold nodeU at h
  rw [if_neg hop.1, if_neg hop.2.2.1, if_neg hop.2.2.2, if_neg hop.2.1] at h
  cases a with
  | bad p x => cases h
  | ok vs =>
    dsimp only at h
    split at h
    · cases h
    · rename_i hne
      injection h with h
      exact ⟨vs, rfl, h, h ▸ hne⟩
theorem plain_rep (hr : ∀ y ∈ lets, rightF 12 y.body = true) : ∀ (n : Nat), n ≤ lets.length → ∀ (d : Nat) (e : Exp) (path : List Int) (u : Int), rightF d e = true → ofU (lets.take n) (tabU lets n) e path = .ok u → plainF (repF lets (repT lets n) e) = true := by
  intro n
  induction n using Nat.strongRecOn with
  | _ n ihn =>
  intro hn d
  induction d with
  | zero => intro e path u h; obtain ⟨op, k, u, s, l⟩ := e; rw [rightF] at h; cases h
  | succ d ih =>
  rintro ⟨op, k, u0, s, l⟩ path u hright h
  rw [ofU] at h
  rw [repF_mk]
  by_cases h1 : op = 1
  · rw [if_pos h1]
    have hu : nameU (lets.take n) (tabU lets n) s ≠ -1 := by
      unfold nodeU at h
      rw [if_neg (by omega), if_neg (by omega), if_neg (by omega), if_pos h1] at h
      intro q
      rw [if_pos q] at h; cases h
    obtain ⟨g1, g2, g3⟩ := name_unit hn hu
    rw [lookR, repT_len, if_pos g1, repT_nth lets g2]
    exact ihn _ g2 (by omega) 12 _ _ _ (hr _ (nth_mem (by omega))) g3
  · rw [if_neg h1, plainF, plainFs_all, decide_eq_false h1, Bool.not_false, Bool.true_and, List.all_eq_true]
    intro x hx
    obtain ⟨y, hy, rfl⟩ := List.mem_map.1 hx
    by_cases hleaf : op = 0 ∨ op = 2 ∨ op = 3
    · rw [leaf_nil hright hleaf] at hy; cases hy
    · obtain ⟨vs, hA, _, _⟩ := node_args ⟨by omega, h1, by omega, by omega⟩ h
      obtain ⟨hv, hvs⟩ := args_ok l path 0 vs hA
      obtain ⟨j, hj, rfl⟩ := List.mem_iff_getElem.1 hy
      have e := hvs j hj
      rw [nth_eq hj] at e
      exact ih _ _ _ (right_kidsU hright _ hy) e
theorem one01_num {n : Int} (h : 0 ≤ n ∧ n ≤ 1) : ∃ b, Rat.divInt n 1 = one01 b := by
  rcases (show n = 0 ∨ n = 1 by omega) with rfl | rfl
  · exact ⟨false, (one01_eq false).symm⟩
  · exact ⟨true, (one01_eq true).symm⟩
theorem pair_4 {op a b : Int} (h : pairF op a b = 4) : op = 10 ∨ op = 11 := by
  unfold pairF at h
  split at h <;> (repeat' split at h) <;> omega
theorem truth_val (hL : LetsOk lets) : ∀ (n : Nat), n ≤ lets.length → ∀ (d : Nat) (e : Exp) (path : List Int), rightF d e = true → tempF e = false → ofU (lets.take n) (tabU lets n) e path = .ok 4 → ∀ r, evF lets en (tabF lets en n) e = .ok r → ∃ b, r = one01 b := by
  intro n
  induction n using Nat.strongRecOn with
  | _ n ihn =>
  intro hn d
  induction d with
  | zero => intro e path h; obtain ⟨op, k, u, s, l⟩ := e; rw [rightF] at h; cases h
  | succ d ih =>
  rintro ⟨op, k, u0, s, l⟩ path hr ht h r hv
  rw [ofU] at h
  rw [evF_mk, stepF] at hv
  rcases stat_cases hr ht with ⟨rfl, rfl, hk⟩ | ⟨rfl, rfl⟩ | ⟨rfl, rfl⟩ | ⟨rfl, rfl⟩ | ⟨h1, h2⟩
  · unfold nodeU at h
    rw [if_pos rfl] at h hv
    injection h with h
    subst h
    rw [rightF, if_pos rfl] at hr
    simp only [Bool.and_eq_true] at hr
    have := hr.2.2
    unfold inF at this
    simp only [if_true, Bool.and_eq_true, decide_eq_true_iff] at this
    rw [if_neg (by omega)] at hv
    injection hv with hv
    obtain ⟨b, hb⟩ := one01_num this
    exact ⟨b, by rw [← hv, hb]⟩
  · have hu : nameU (lets.take n) (tabU lets n) s = 4 := by
      unfold nodeU at h
      rw [if_neg (by omega), if_neg (by omega), if_neg (by omega), if_pos rfl] at h
      split at h
      · cases h
      · injection h
    obtain ⟨g1, g2, g3⟩ := name_unit hn (by rw [hu]; omega)
    rw [hu] at g3
    rw [if_neg (by omega), if_pos rfl, lookN, tabF_len, if_pos g1, tabF_nth lets en g2] at hv
    obtain ⟨k1, k2⟩ := statF_yes (hL.2 _ (nth_mem (show (lets.take n).findIdx (nameEq s) < lets.length by omega))).1
    exact ihn _ g2 (by omega) 12 _ _ k1 k2 g3 r hv
  · unfold nodeU at h
    rw [if_neg (by omega), if_pos rfl] at h
    injection h with h; omega
  · unfold nodeU at h
    rw [if_neg (by omega), if_neg (by omega), if_pos rfl] at h
    injection h with h; omega
  · rw [if_neg (by omega), if_neg (by omega), if_neg (by omega), if_neg (by omega)] at hv
    obtain ⟨vs, hA, hj, _⟩ := node_args ⟨by omega, by omega, by omega, by omega⟩ h
    obtain ⟨hvl, hvs⟩ := args_ok l path 0 vs hA
    have hmap : ∀ j, j < l.length → nth (l.map (evF lets en (tabF lets en n))) j = evF lets en (tabF lets en n) (nth l j) := fun j hj => nth_map2 hj
    cases h0 : nth (l.map (evF lets en (tabF lets en n))) 0 with
    | err e => rw [h0] at hv; cases hv
    | ok a =>
      rw [h0] at hv
      dsimp only at hv
      by_cases h12 : op = 12
      · rw [if_pos h12] at hv
        injection hv with hv
        exact ⟨_, hv.symm⟩
      rw [if_neg h12] at hv
      by_cases h15 : op = 15
      · have hl3 : l.length = 3 := by omega
        rw [if_pos h15] at hv
        unfold joinF at hj
        rw [h15, if_neg (by decide), if_pos rfl] at hj
        split at hj
        · rename_i hc
          obtain ⟨c1, c2⟩ := hc
          have a1 := hvs 1 (by omega)
          have a2 := hvs 2 (by omega)
          rw [hj] at a1
          rw [← c2, hj] at a2
          split at hv
          · rw [hmap 2 (by omega)] at hv
            exact ih _ _ (h2 _ (nth_mem (by omega))).1 (h2 _ (nth_mem (by omega))).2 a2 r hv
          · rw [hmap 1 (by omega)] at hv
            exact ih _ _ (h2 _ (nth_mem (by omega))).1 (h2 _ (nth_mem (by omega))).2 a1 r hv
        · omega
      rw [if_neg h15] at hv
      split at hv
      · injection hv with hv
        exact ⟨_, hv.symm⟩
      · cases h1' : nth (l.map (evF lets en (tabF lets en n))) 1 with
        | err e => rw [h1'] at hv; cases hv
        | ok b =>
          rw [h1'] at hv
          dsimp only at hv
          by_cases hlog : op = 13 ∨ op = 14
          · unfold binF at hv
            rw [if_neg (by omega), if_neg (by omega), if_neg (by omega), if_neg (by omega), if_neg (by omega), if_neg (by omega), if_neg (by omega), if_neg (by omega)] at hv
            injection hv with hv
            exact ⟨_, hv.symm⟩
          · have hlf : logicF op = false := by
              unfold logicF
              rw [← Bool.not_eq_true, List.any_eq_true]
              rintro ⟨y, hy, hq⟩
              have := of_decide_eq_true hq
              simp at hy
              omega
            unfold joinF at hj
            rw [hlf, if_neg (by simp), if_neg h15, if_pos (by omega)] at hj
            rcases pair_4 hj with rfl | rfl
            · rw [bin10] at hv; injection hv with hv; exact ⟨_, hv.symm⟩
            · rw [bin11] at hv; injection hv with hv; exact ⟨_, hv.symm⟩
end
end Go.Proofs.YtjedkgogjehigaaGreat
end
section
set_option linter.unusedVariables false
set_option linter.unusedSimpArgs false
set_option maxHeartbeats 8000000
set_option linter.unusedSectionVars false
namespace Go.Proofs.YtjedkgogjehigaaGreat
open Lf Go
attribute [local irreducible] PureOp EffOp Ev RG W Then InBlock Lf.Fin nth App InitE Pick SubE EvL EvD EvP EvR ResL Lf.Lex SubR SubBR RA RAll EvC FinO FinM ResM ResD FinS val pw digs trimL
section
variable {lets : List Let} {en : EnvQ} {v : EnvV}
theorem askF_iff {e : Exp} : askF lets e v = true ↔ (statF e = true ∧ lets.length ≤ 20) ∧ (lets.any fun y => !statF y.body) = false ∧ validF v = true := by
  unfold askF
  simp only [Bool.and_eq_true, decide_eq_true_iff, Bool.not_eq_true']
theorem zF_one : zF (one01 true) = fB 1 [1] 1 [1] := by
  show PV.agg [_, _, _, _] = PV.agg [_, _, _, _]
  rw [show sgn (one01 true).num = 1 by decide +kernel, show digs (mag (one01 true).num) = [1] by decide +kernel, show sgn ((one01 true).den : Int) = 1 by decide +kernel, show digs (mag ((one01 true).den : Int)) = [1] by decide +kernel]
theorem zF_zero : zF (one01 false) = fB 0 [] 1 [1] := by
  show PV.agg [_, _, _, _] = PV.agg [_, _, _, _]
  rw [show sgn (one01 false).num = 0 by decide +kernel, show digs (mag (one01 false).num) = [] by decide +kernel, show sgn ((one01 false).den : Int) = 1 by decide +kernel, show digs (mag ((one01 false).den : Int)) = [1] by decide +kernel]
end
end Go.Proofs.YtjedkgogjehigaaGreat
end
