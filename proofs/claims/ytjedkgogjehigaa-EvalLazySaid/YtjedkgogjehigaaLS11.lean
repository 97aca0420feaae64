/-
  Part 11 of what the proof rests on.
-/
import Derived.Test.YtjedkgogjehigaaLS09
import Derived.Test.YtjedkgogjehigaaLS10
import Derived.Test.YtjedkgogjehigaaLS08
import Derived.Test.YtjedkgogjehigaaLS03
section
set_option linter.unusedVariables false
set_option linter.unusedSimpArgs false
set_option maxHeartbeats 8000000
set_option linter.unusedSectionVars false
namespace Go.Proofs.Ytjedkgogjehigaa
open Lf Go
attribute [local irreducible] PureOp EffOp Ev RG W Then InBlock Lf.Fin nth App InitE Pick SubE EvL EvD EvP EvR ResL Lf.Lex SubR SubBR EvC FinO FinM ResM ResD FinS val pw digs trimL
section
mutual
def tempF : Exp → Bool
  | .mk op _ _ _ l => ((decide (op = 16) || decide (op = 17)) || decide (op = 18)) || tempFs l
def tempFs : List Exp → Bool
  | [] => false
  | e :: r => tempF e || tempFs r
end
theorem tempFs_any : ∀ l, tempFs l = l.any tempF
  | [] => rfl
  | e :: r => by rw [tempFs, tempFs_any r]; rfl
theorem temp_ok (e : Exp) : OkE e → ACalls Try.prog 40 [aE e] (.pv (cB (tempF e))) := by
  refine Exp.ind (P := fun e => OkE e → ACalls Try.prog 40 [aE e] (.pv (cB (tempF e)))) (fun op n u s l ih he => ?_) e
  cases he with
  | mk hs hl h =>
  rw [aE_mk, tempF, tempFs_any]
  have hc := containsE_ok l 40 [] tempF hl (fun x hx => ih x hx (h x hx))
  generalize l.any tempF = b at *
  refine ACalls.of_W (qs := [cB (((decide (op = 16) || decide (op = 17)) || decide (op = 18)) || b)]) [2] 21 Try.func40 (by kernel_rfl) rfl rfl rfl fun G => ?_
  refine W.initA (hw := ?_)
  repeat' (first | ((first | apply U_ | (apply Ug_; exact rfl; exact rfl) | (apply Ugq_; exact rfl; exact rfl)); (first | exact QX.B TYok | exact QCl (hc)); exact rfl) | refine SX.Box TYok (h := ?_) | refine SC ?_ | (apply S_isnil TYok; exact rfl; exact rfl; exact rfl; exact Ev.auto; intro bn hnil) | (apply RG.gT; exact rfl; exact rfl; (first | assumption | decide)) | (apply RG.gF; exact rfl; exact rfl; (first | assumption | decide | (rw [ne_eq, Bool.not_eq_true]; assumption) | (rw [ne_eq, Bool.not_eq_false]; assumption)); exact rfl) | (refine W.condA (ht := fun hb => ?_) (hf := fun hb => ?_) <;> (try simp at hb) <;> (try (exfalso; omega))))
  exact Fin.ret ResL.auto
theorem rightExp_ok (e : Exp) (he : OkE e) : ACalls Try.prog 11 [aE e] (.pv (cB (rightF 12 e))) := by
  have h := rightE_ok 12 e (by omega) he
  refine ACalls.of_W (qs := [cB (rightF 12 e)]) [2] 5 Try.func11 (by kernel_rfl) rfl rfl rfl fun G => ?_
  refine W.initA (hw := ?_)
  repeat' (first | ((first | apply U_); (first | exact QX.B TYok | exact QCd (h)); exact rfl) | refine SX.Box TYok (h := ?_) | refine SC ?_ | (refine W.condA (ht := fun hb => ?_) (hf := fun hb => ?_) <;> (try simp at hb) <;> (try (exfalso; omega))))
  exact Fin.ret ResL.auto
def statF (e : Exp) : Bool := rightF 12 e && !tempF e
theorem stat_ok (e : Exp) (he : OkE e) : ACalls Try.prog 24 [aE e] (.pv (cB (statF e))) := by
  have h1 := rightExp_ok e he
  have h2 := temp_ok e he
  unfold statF
  generalize rightF 12 e = b1 at *
  generalize tempF e = b2 at *
  refine ACalls.of_W (qs := [cB (b1 && !b2)]) [2] 10 Try.func24 (by kernel_rfl) rfl rfl rfl fun G => ?_
  refine W.initA (hw := ?_)
  repeat' (first | ((first | apply U_ | (apply Ug_; exact rfl; exact rfl) | (apply Ugq_; exact rfl; exact rfl)); (first | exact QX.B TYok | exact QCd (h1) | exact QCd (h2)); exact rfl) | refine SX.Box TYok (h := ?_) | refine SC ?_ | (apply RG.gT; exact rfl; exact rfl; (first | assumption | decide)) | (apply RG.gF; exact rfl; exact rfl; (first | assumption | decide | (rw [ne_eq, Bool.not_eq_true]; assumption) | (rw [ne_eq, Bool.not_eq_false]; assumption)); exact rfl) | (refine W.condA (ht := fun hb => ?_) (hf := fun hb => ?_) <;> (try simp at hb) <;> (try (exfalso; omega))))
  exact Fin.ret ResL.auto
theorem badL_ok (y : Let) (h : OkE y.body) : ACalls Try.prog 26 [aL y] (.pv (cB (!statF y.body))) := by
  have q := stat_ok y.body h
  generalize statF y.body = b at *
  refine ACalls.of_W (qs := [cB (!b)]) [2] 7 Try.func26 (by kernel_rfl) rfl rfl rfl fun G => ?_
  refine W.initA (hw := ?_)
  repeat' (first | ((first | apply U_); (first | exact QX.B TYok | exact QCd (q)); exact rfl) | refine SX.Box TYok (h := ?_) | refine SC ?_ | (refine W.condA (ht := fun hb => ?_) (hf := fun hb => ?_) <;> (try simp at hb) <;> (try (exfalso; omega))))
  exact Fin.ret ResL.auto
theorem badF_ok (q : Fq) (h : FqOk q) : ACalls Try.prog 42 [fqV q] (.pv (cB (!q.right))) := by
  have r1 := fright_ok q.s q.d q.s' q.d' h.1 h.2
  rw [show rightFB q.s q.d q.s' q.d' = q.right from rfl] at r1
  generalize q.right = b at *
  refine ACalls.of_W (qs := [cB (!b)]) [2] 6 Try.func42 (by kernel_rfl) rfl rfl rfl fun G => ?_
  refine W.initA (hw := ?_)
  repeat' (first | ((first | apply U_); (first | exact QX.B TYok | exact QCd (r1)); exact rfl) | refine SX.Box TYok (h := ?_) | refine SC ?_ | (refine W.condA (ht := fun hb => ?_) (hf := fun hb => ?_) <;> (try simp at hb) <;> (try (exfalso; omega))))
  exact Fin.ret ResL.auto
theorem valid_ok (v : EnvV) (h : v.Len) : ACalls Try.prog 27 [.agg (encEnv v)] (.pv (cB (validF v))) := by
  have c1 := containsF_ok v.vals 42 [] (fun q => !q.right) h.h2 (fun x hx => badF_ok x (h.q1 x hx))
  have c2 := containsF_ok v.rates 42 [] (fun q => !q.right) h.h4 (fun x hx => badF_ok x (h.q2 x hx))
  obtain ⟨N, V, I, R⟩ := v
  unfold validF
  simp only at c1 c2 ⊢
  generalize (V.any fun q => !q.right) = b1 at *
  generalize (R.any fun q => !q.right) = b2 at *
  refine ACalls.of_W (qs := [cB (((decide ((N.length : Int) = V.length) && decide ((I.length : Int) = R.length)) && !b1) && !b2)]) [2] 34 Try.func27 (by kernel_rfl) rfl rfl rfl fun G => ?_
  refine W.initA (hw := ?_)
  repeat' (first | ((first | apply U_ | (apply Ug_; exact rfl; exact rfl) | (apply Ugq_; exact rfl; exact rfl)); (first | exact QX.B TYok | exact QX.Len TYok | exact QCd (c1) | exact QCd (c2)); exact rfl) | refine SX.Box TYok (h := ?_) | refine SC ?_ | (apply S_isnil TYok; exact rfl; exact rfl; exact rfl; exact Ev.auto; intro bn hnil) | (apply RG.gT; exact rfl; exact rfl; (first | assumption | decide)) | (apply RG.gF; exact rfl; exact rfl; (first | assumption | decide | (rw [ne_eq, Bool.not_eq_true]; assumption) | (rw [ne_eq, Bool.not_eq_false]; assumption)); exact rfl) | (refine W.condA (ht := fun hb => ?_) (hf := fun hb => ?_) <;> (try simp at hb) <;> (try (exfalso; omega))))
  all_goals exact Fin.ret ResL.auto
end
end Go.Proofs.Ytjedkgogjehigaa
end
section
set_option linter.unusedVariables false
set_option linter.unusedSimpArgs false
set_option maxHeartbeats 8000000
set_option linter.unusedSectionVars false
namespace Go.Proofs.Ytjedkgogjehigaa
open Lf Go
attribute [local irreducible] PureOp EffOp Ev RG W Then InBlock Lf.Fin nth App InitE Pick SubE EvL EvD EvP EvR ResL Lf.Lex SubR SubBR EvC FinO FinM ResM ResD FinS val pw digs trimL
section
structure EnvQ where
  names : List Str
  vals : List Rat
  iss : List Str
  rates : List Rat
/-- the value of a name, among the definitions whose values are known -/
def nameEq (s : Str) (y : Let) : Bool := decide (y.name = s)
def lookN (lets : List Let) (vs : List Rs) (s : Str) : Rs := if (lets.take vs.length).any (nameEq s) then nth vs ((lets.take vs.length).findIdx (nameEq s)) else .err 14
noncomputable def stepF (lets : List Let) (en : EnvQ) (vs : List Rs) (op n u : Int) (s : Str) (A : List Rs) : Rs :=
  if op = 0 then .ok (if u = 2 then Rat.divInt n 1000 else Rat.divInt n 1)
  else if op = 1 then lookN lets vs s
  else if op = 2 then lookF en.names en.vals s
  else if op = 3 then lookF en.iss en.rates s
  else match nth A 0 with
  | .err e => .err e
  | .ok a =>
    if op = 12 then .ok (one01 (decide (sgn a.num = 0)))
    else if op = 15 then (if sgn a.num = 0 then nth A 2 else nth A 1)
    else if op = 13 ∧ sgn a.num = 0 ∨ op = 14 ∧ sgn a.num ≠ 0 then .ok (one01 (!decide (sgn a.num = 0)))
    else match nth A 1 with
    | .err e => .err e
    | .ok b => binF op a b
mutual
noncomputable def evF (lets : List Let) (en : EnvQ) (vs : List Rs) : Exp → Rs
  | .mk op n u s l => stepF lets en vs op n u s (evFs lets en vs l)
noncomputable def evFs (lets : List Let) (en : EnvQ) (vs : List Rs) : List Exp → List Rs
  | [] => []
  | e :: r => evF lets en vs e :: evFs lets en vs r
end
theorem evFs_map (lets : List Let) (en : EnvQ) (vs : List Rs) : ∀ l, evFs lets en vs l = l.map (evF lets en vs)
  | [] => by rw [evFs]; rfl
  | e :: r => by rw [evFs, evFs_map lets en vs r]; rfl
theorem evF_mk (lets : List Let) (en : EnvQ) (vs : List Rs) (op n u : Int) (s : Str) (l : List Exp) : evF lets en vs (.mk op n u s l) = stepF lets en vs op n u s (l.map (evF lets en vs)) := by rw [evF, evFs_map]
/-- the values of the first definitions -/
noncomputable def tabF (lets : List Let) (en : EnvQ) : Nat → List Rs
  | 0 => []
  | k + 1 => tabF lets en k ++ [evF lets en (tabF lets en k) (nth lets k).body]
theorem tabF_len (lets : List Let) (en : EnvQ) : ∀ n, (tabF lets en n).length = n
  | 0 => rfl
  | k + 1 => by rw [tabF, List.length_append, tabF_len lets en k]; rfl
theorem tabF_nth (lets : List Let) (en : EnvQ) {i : Nat} : ∀ {n : Nat}, i < n → nth (tabF lets en n) i = evF lets en (tabF lets en i) (nth lets i).body
  | 0, h => by omega
  | n + 1, h => by
    rw [tabF]
    by_cases e : i = n
    · subst e
      rw [nth, List.getD_eq_getElem?_getD, List.getElem?_append_right (by rw [tabF_len]; omega), tabF_len, Nat.sub_self]; rfl
    · have := tabF_nth lets en (i := i) (n := n) (by omega)
      rw [nth, List.getD_eq_getElem?_getD] at this ⊢
      rw [List.getElem?_append_left (by rw [tabF_len]; omega)]; exact this
noncomputable def valF (lets : List Let) (en : EnvQ) (n : Nat) (e : Exp) : Rs := evF lets en (tabF lets en n) e
theorem nth_map2 {α β : Type} [Inhabited α] [Inhabited β] {f : α → β} {l : List α} {k : Nat} (h : k < l.length) : nth (l.map f) k = f (nth l k) := by
  rw [nth, nth, List.getD_eq_getElem?_getD, List.getD_eq_getElem?_getD, List.getElem?_map, List.getElem?_eq_getElem h]; rfl
structure EnvQ.Ok (en : EnvQ) : Prop where
  v : ∀ r ∈ en.vals, okF r
  r : ∀ r ∈ en.rates, okF r
  l1 : en.names.length = en.vals.length
  l2 : en.iss.length = en.rates.length
  b1 : en.names.length ≤ 9223372036854775807
  b2 : en.iss.length ≤ 9223372036854775807
theorem lookF_fit {names : List Str} {vals : List Rat} {s : Str} (h : names.length = vals.length) (hv : ∀ r ∈ vals, okF r) : (lookF names vals s).fit := by
  unfold lookF
  split
  · rename_i hm
    exact hv _ (nth_mem (by have := List.idxOf_lt_length_iff.2 hm; omega))
  · exact (by decide : (14 : Int) ≠ 0)
theorem lookN_fit {lets : List Let} {vs : List Rs} {s : Str} (h : ∀ R ∈ vs, R.fit) : (lookN lets vs s).fit := by
  unfold lookN
  split
  · rename_i hm
    have hi := List.findIdx_lt_length_of_exists (List.any_eq_true.1 hm)
    exact h _ (nth_mem (by rw [List.length_take] at hi; omega))
  · exact (by decide : (14 : Int) ≠ 0)
theorem i64_15 {n : Int} (h : inF 0 1000000000000000 n = true) : i64B n := by
  unfold inF at h
  simp only [Bool.and_eq_true, decide_eq_true_iff] at h
  unfold i64B; omega
theorem opsF_two {op : Int} (h : opsF op = 2) : (4 ≤ op ∧ op ≤ 11) ∨ op = 13 ∨ op = 14 := by
  unfold opsF at h
  repeat' split at h
  all_goals omega
theorem opsF_cases {op : Int} {k : Nat} (h : (k : Int) = opsF op) : ((op = 0 ∨ op = 1 ∨ op = 2 ∨ op = 3) ∧ k = 0) ∨ ((op = 12 ∨ op = 16 ∨ op = 17 ∨ op = 18) ∧ k = 1) ∨ (op = 15 ∧ k = 3) ∨ (((4 ≤ op ∧ op ≤ 11) ∨ op = 13 ∨ op = 14) ∧ k = 2) := by
  by_cases h2 : opsF op = 2
  · have := opsF_two h2; omega
  unfold opsF at h h2
  repeat' split at h
  all_goals (first | omega | (exfalso; split at h2 <;> (try split at h2) <;> (try split at h2) <;> (try split at h2) <;> omega))
/-- what a right expression that is not about days looks like -/
theorem stat_cases {d : Nat} {op n u : Int} {s : Str} {l : List Exp} (hr : rightF (d + 1) (.mk op n u s l) = true) (ht : tempF (.mk op n u s l) = false) :
    (op = 0 ∧ l = [] ∧ i64B n) ∨ (op = 1 ∧ l = []) ∨ (op = 2 ∧ l = []) ∨ (op = 3 ∧ l = []) ∨ ((op = 12 ∧ l.length = 1 ∨ op = 15 ∧ l.length = 3 ∨ ((4 ≤ op ∧ op ≤ 11) ∨ op = 13 ∨ op = 14) ∧ l.length = 2) ∧ ∀ x ∈ l, rightF d x = true ∧ tempF x = false) := by
  rw [rightF] at hr
  rw [tempF, tempFs_any] at ht
  simp only [Bool.and_eq_true, decide_eq_true_iff, Bool.or_eq_false_iff, decide_eq_false_iff_not] at hr ht
  obtain ⟨h1, h2⟩ := hr
  obtain ⟨⟨⟨t1, t2⟩, t3⟩, t4⟩ := ht
  have tl : ∀ x ∈ l, tempF x = false := fun x hx => by
    cases h : tempF x with
    | false => rfl
    | true => rw [List.any_eq_true.2 ⟨x, hx, h⟩] at t4; cases t4
  rcases opsF_cases h1 with ⟨q, hk⟩ | ⟨q, hk⟩ | ⟨q, hk⟩ | ⟨q, hk⟩
  · have hl : l = [] := List.length_eq_zero_iff.1 hk
    rcases q with rfl | rfl | rfl | rfl
    · refine .inl ⟨rfl, hl, ?_⟩
      rw [if_pos rfl] at h2
      simp only [Bool.and_eq_true] at h2
      have h3 := h2.2
      split at h3
      · unfold inF at h3
        simp only [Bool.and_eq_true, decide_eq_true_iff] at h3
        unfold i64B; omega
      · exact i64_15 h3
    · exact .inr (.inl ⟨rfl, hl⟩)
    · exact .inr (.inr (.inl ⟨rfl, hl⟩))
    · exact .inr (.inr (.inr (.inl ⟨rfl, hl⟩)))
  all_goals (
    rw [if_neg (by omega), if_neg (by omega), if_neg (by omega)] at h2
    simp only [Bool.and_eq_true, List.all_eq_true] at h2
    exact .inr (.inr (.inr (.inr ⟨by omega, fun x hx => ⟨h2.2 x hx, tl x hx⟩⟩))))
theorem evF_fit {lets : List Let} {en : EnvQ} (he : en.Ok) {vs : List Rs} (hv : ∀ R ∈ vs, R.fit) : ∀ (d : Nat) (e : Exp), rightF d e = true → tempF e = false → (evF lets en vs e).fit
  | 0, .mk op n u s l, hr, _ => by rw [rightF] at hr; cases hr
  | d + 1, .mk op n u s l, hr, ht => by
    rw [evF_mk]
    unfold stepF
    rcases stat_cases hr ht with ⟨rfl, rfl, hn⟩ | ⟨rfl, rfl⟩ | ⟨rfl, rfl⟩ | ⟨rfl, rfl⟩ | ⟨h1, h2⟩
    · rw [if_pos rfl]
      split
      · exact okF_of (i64_ok hn) (i64_ok (by unfold i64B; omega)) (by omega)
      · exact okF_of (i64_ok hn) (i64_ok (by unfold i64B; omega)) (by omega)
    · exact lookN_fit hv
    · exact lookF_fit he.l1 he.v
    · exact lookF_fit he.l2 he.r
    · rw [if_neg (by omega), if_neg (by omega), if_neg (by omega), if_neg (by omega)]
      have ih : ∀ k, k < l.length → (nth (l.map (evF lets en vs)) k).fit := fun k hk => by
        rw [nth_map2 hk]
        exact evF_fit he hv d _ (h2 _ (nth_mem hk)).1 (h2 _ (nth_mem hk)).2
      have i0 := ih 0 (by omega)
      cases h0 : nth (l.map (evF lets en vs)) 0 with
      | err e => rw [h0] at i0; exact i0
      | ok a =>
        rw [h0] at i0
        dsimp only
        split
        · exact one01_ok _
        · split
          · split
            · exact ih 2 (by omega)
            · exact ih 1 (by omega)
          · split
            · exact one01_ok _
            · have i1 := ih 1 (by omega)
              cases h1 : nth (l.map (evF lets en vs)) 1 with
              | err e => rw [h1] at i1; exact i1
              | ok b => rw [h1] at i1; exact binF_fit op i0 i1
/-- definitions that are right -/
def LetsOk (lets : List Let) : Prop := lets.length ≤ 20 ∧ ∀ y ∈ lets, statF y.body = true ∧ OkE y.body
theorem statF_yes {e : Exp} (h : statF e = true) : rightF 12 e = true ∧ tempF e = false := by
  unfold statF at h
  simpa using h
theorem tabF_fit {lets : List Let} {en : EnvQ} (he : en.Ok) (hl : LetsOk lets) : ∀ n, n ≤ lets.length → ∀ R ∈ tabF lets en n, R.fit
  | 0, _, R, hR => by rw [tabF] at hR; cases hR
  | n + 1, hn, R, hR => by
    rw [tabF] at hR
    rcases List.mem_append.1 hR with h | h
    · exact tabF_fit he hl n (by omega) R h
    · obtain rfl := List.mem_singleton.1 h
      have := statF_yes (hl.2 _ (nth_mem (show n < lets.length by omega))).1
      exact evF_fit he (tabF_fit he hl n (by omega)) 12 _ this.1 this.2
end
end Go.Proofs.Ytjedkgogjehigaa
end
section
set_option linter.unusedVariables false
set_option linter.unusedSimpArgs false
set_option maxHeartbeats 8000000
set_option linter.unusedSectionVars false
namespace Go.Proofs.Ytjedkgogjehigaa
open Lf Go
attribute [local irreducible] PureOp EffOp Ev RG W Then InBlock Lf.Fin nth App InitE Pick SubE EvL EvD EvP EvR ResL Lf.Lex SubR SubBR EvC FinO FinM ResM ResD FinS val pw digs trimL
section
theorem KI : KeyK Try.prog 3 kI := KeyK.int (by kernel_rfl)
theorem mget_mput {γ : Type} : ∀ (M : List (Int × γ)) (k s : Int) (v : γ), mget (mput M k v) s = if k = s then some v else mget M s
  | [], k, s, v => by rw [mput, mget, mget]; split <;> rfl
  | (j, y) :: r, k, s, v => by
    rw [mput]
    by_cases h : j = k
    · subst h
      rw [if_pos rfl, mget, mget]
      by_cases h2 : j = s
      · rw [if_pos h2, if_pos h2]
      · rw [if_neg h2, if_neg h2]; simp [h2]
    · rw [if_neg h, mget, mget, mget_mput r k s v]
      by_cases h2 : j = s
      · subst h2; rw [if_pos rfl, if_neg (Ne.symm h), if_pos rfl]
      · rw [if_neg h2, if_neg h2]
/-- what the pointer shows -/
abbrev cellsR (lets : List Let) (en : EnvQ) (b : Nat) : List Cell := [.sl (lets.map encL), .sl (en.names.map encS), .sl (en.vals.map encQ), .sl (en.iss.map encS), .sl (en.rates.map encQ), .mpa b]
def InvM (lets : List Let) (en : EnvQ) (M : List (Int × Rat)) : Prop := ∀ k v, mget M k = some v → 0 ≤ k ∧ k < lets.length ∧ nth (tabF lets en lets.length) k.toNat = .ok v
def InvR (lets : List Let) (en : EnvQ) (rows : List (List Cell)) : Prop := ∃ M : List (Int × Rat), rows = M.map (mrow kI encQ) ∧ InvM lets en M
theorem name1_ok (y : Let) (s : Str) : ACalls Try.prog 67 [aL y, .one (.ptr [.str s])] (.pv (cB (nameEq s y))) := by
  unfold nameEq
  refine ACalls.of_W (qs := [cB (decide (y.name = s))]) [3] 8 Try.func67 (by kernel_rfl) rfl rfl rfl fun G => ?_
  refine W.initA (hw := ?_)
  repeat' (first | ((first | apply U_); (first | exact QX.B TYok); exact rfl) | refine SX.Box TYok (h := ?_) | refine SC ?_ | (apply S_isnil TYok; exact rfl; exact rfl; exact rfl; exact Ev.auto; intro bn hnil) | (refine W.condA (ht := fun hb => ?_) (hf := fun hb => ?_) <;> (try simp at hb) <;> (try (exfalso; omega))))
  all_goals exact Fin.ret ResL.auto
theorem take_map {α : Type} {f : α → List Cell} (l : List α) (n : Nat) : (l.map f).take n = (l.take n).map f := (List.map_take).symm
variable {lets : List Let} {en : EnvQ}
abbrev VCalls (lets : List Let) (en : EnvQ) (f : Nat) (args : List PV) (R : Rs) : Prop := PCalls Try.prog f 4 (fun b => .one (.ptr (cellsR lets en b)) :: args) (resP R) (InvR lets en)
attribute [local irreducible] sgn mag gcdZ quoZ remZ fullZ fullE
theorem Q_lookS {P : Program} {G : Ghost} {T : TT} (hT : TOK P T) {n0 : Nat} {env : List (Nat × (Prop × AV))} {bl : List (Nat × Blk)} {p : Prop} {dst : Option Nat} {ty : TypeId} {pos : String} {after : Array Edge} {gd : Option (Nat × Bool)} {α γ : Type} [DecidableEq α] {kc : α → Cell} {kt : TypeId}
    (K : KeyK P kt kc) {t e n z : Nat} {m x : Operand} {ti te : TI} {vc : γ → List Cell} {M : List (α × γ)} {k : α} {v : γ} (hg : mget M k = some v) (hm : Ev (St.mk n0 env bl) p m (.mp n)) (hl : lk bl n = some ⟨mapTag, z, M.map (mrow kc vc)⟩)
    (hx : Ev (St.mk n0 env bl) p x (.pv (.one (kc k)))) (ht : T t = some ti) (hk : ti.kind = .map kt e) (he : T e = some te) : PureOp P G (St.mk n0 env bl) ⟨dst, .lookup t m x true, ty, pos, after, gd⟩ p (.tup [mapPV z (vc v), .one (.bool true)]) := by
  have := Q_lookup (G := G) (dst := dst) (ty := ty) (pos := pos) (after := after) (gd := gd) hT K (c := true) (vc := vc) (M := M) (k := k) (r := mapPV z (vc v)) hm hl hx ht hk he (by rw [hg])
  rw [hg] at this
  exact this
theorem Q_lookN {P : Program} {G : Ghost} {T : TT} (hT : TOK P T) {n0 : Nat} {env : List (Nat × (Prop × AV))} {bl : List (Nat × Blk)} {p : Prop} {dst : Option Nat} {ty : TypeId} {pos : String} {after : Array Edge} {gd : Option (Nat × Bool)} {α γ : Type} [DecidableEq α] {kc : α → Cell} {kt : TypeId}
    (K : KeyK P kt kc) {t e n z : Nat} {m x : Operand} {ti te : TI} {vc : γ → List Cell} {M : List (α × γ)} {k : α} (hg : mget M k = none) (hm : Ev (St.mk n0 env bl) p m (.mp n)) (hl : lk bl n = some ⟨mapTag, z, M.map (mrow kc vc)⟩)
    (hx : Ev (St.mk n0 env bl) p x (.pv (.one (kc k)))) (ht : T t = some ti) (hk : ti.kind = .map kt e) (he : T e = some te) : PureOp P G (St.mk n0 env bl) ⟨dst, .lookup t m x true, ty, pos, after, gd⟩ p (.tup [te.zero, .one (.bool false)]) := by
  have := Q_lookup (G := G) (dst := dst) (ty := ty) (pos := pos) (after := after) (gd := gd) hT K (c := true) (vc := vc) (M := M) (k := k) (r := te.zero) hm hl hx ht hk he (by rw [hg])
  rw [hg] at this
  exact this
theorem indexN_ok (hL : LetsOk lets) (n : Nat) (hn : n ≤ lets.length) (s : Str) : ACalls Try.prog 41 [.one (.sl ((lets.map encL).take n)), .one (.fn 67 [.ptr [.str s]])] (.pv (cI (fidx (nameEq s) (lets.take n)))) := by
  rw [take_map]
  exact indexL_ok (lets.take n) 67 [.ptr [.str s]] (nameEq s) (by rw [List.length_take]; have := hL.1; omega) (fun x _ => name1_ok x s)
theorem name_none (hL : LetsOk lets) (n : Nat) (hn : n ≤ lets.length) (s : Str) (h : (lets.take n).any (nameEq s) = false) : VCalls lets en 45 [cS s, cI n] (.err 14) := by
  have h1 := indexN_ok hL n hn s
  rw [fidx_miss h] at h1
  have hlen := hL.1
  refine PCalls.of_M TYok (z := 4) (qs := [zF0, cI 14]) [.cell 6 40, .tmp 7] 59 Try.func45 (by kernel_rfl) rfl rfl rfl fun G b rows hI => ?_
  simp only [St.initP, initEnv, Nat.reduceAdd, List.cons_append, List.nil_append]
  repeat' (first | (refine W.weaken (Le.freeze1 (m := 4) rfl) ?_) | ((first | apply U_ | apply Lex.u | (apply Lex.g; exact rfl; exact rfl) | (apply Lex.gq; exact rfl; exact rfl)); (first | exact QX.B TYok | exact QX.Nil TYok | exact QX.Idx TYok | exact QX.Ext TYok | exact QX.Build TYok | exact QX.Fun TYok | exact QX.Cut TYok | exact QCd (h1)); exact rfl) | refine SX.Alloc TYok (h := ?_) | refine SX.Store TYok (h := ?_) | refine SX.Box TYok (h := ?_) | refine SC ?_ | (apply S_isnil TYok; exact rfl; exact rfl; exact rfl; exact Ev.auto; intro bn hnil) | (apply W.draw2 (id := 9) [0, 1, 3, 7, 0, 0, 63] [[0], [51], [52], [53], [8], [11]] 6 [(51, 1), (52, 2251799813685248), (53, 4503599627370496), (54, 9007199254740992), (55, 256), (56, 2048)] mixed (by kernel_rfl) rfl rfl) | (refine W.condA (ht := fun hb => ?_) (hf := fun hb => ?_) <;> (try simp at hb) <;> (try (exfalso; omega))))
  all_goals exact FinP.ret 1000000 rfl hI rfl (ResM.cell rfl rfl rfl rfl zeroSubF (ResM.tmp rfl rfl PSub.rfl' ResM.nil))
theorem hit_ix {n i : Nat} {s : Str} (hn : n ≤ lets.length) (h : (lets.take n).any (nameEq s) = true) (hi : (lets.take n).findIdx (nameEq s) = i) : i < n := by
  have := List.findIdx_lt_length_of_exists (List.any_eq_true.1 h)
  rw [List.length_take] at this
  omega
theorem name_hit (hL : LetsOk lets) (n : Nat) (hn : n ≤ lets.length) (s : Str) (i : Nat) (h : (lets.take n).any (nameEq s) = true) (hi : (lets.take n).findIdx (nameEq s) = i)
    (R : Rs) (hR : nth (tabF lets en lets.length) i = R) (hf : R.fit) (hV : VCalls lets en 28 [aE (nth lets i).body, cI i] R) : VCalls lets en 45 [cS s, cI n] R := by
  have h1 := indexN_ok hL n hn s
  rw [fidx, if_pos h, hi] at h1
  have hlen := hL.1
  have hin := hit_ix hn h hi
  cases R with
  | err e =>
    have he : e ≠ 0 := hf
    replace hV : PCalls Try.prog 28 4 (fun b => [.one (.ptr (cellsR lets en b)), aE (nth lets i).body, cI i]) (.tup [zF0, cI e]) (InvR lets en) := hV
    show PCalls Try.prog 45 4 (fun b => [.one (.ptr (cellsR lets en b)), cS s, cI n]) (.tup [zF0, cI e]) (InvR lets en)
    refine PCalls.of_M TYok (z := 4) (qs := [zF0, cI e]) [.cell 6 40, .tmp 7] 59 Try.func45 (by kernel_rfl) rfl rfl rfl fun G b rows hI => ?_
    simp only [St.initP, initEnv, Nat.reduceAdd, List.cons_append, List.nil_append]
    obtain ⟨M, rfl, hM⟩ := hI
    cases hg : mget M (i : Int) with
    | some v => have := (hM _ _ hg).2.2; rw [Int.toNat_natCast, hR] at this; cases this
    | none =>
      repeat' (first | (refine W.weaken (Le.freeze1 (m := 4) rfl) ?_) | ((first | apply U_ | apply Lex.u | (apply Lex.g; exact rfl; exact rfl) | (apply Lex.gq; exact rfl; exact rfl)); (first | (apply Q_lookN TYok KI (vc := encQ) hg; exact Ev.auto; exact rfl; exact Ev.auto; exact rfl; exact rfl; exact rfl) | (apply Q_loadMp TYok (g := 1000000); exact rfl; exact rfl; exact rfl; exact rfl; exact rfl; exact Ev.auto) | exact QX.B TYok | exact QX.Nil TYok | exact QX.Idx TYok | exact QX.Ext TYok | exact QX.Build TYok | exact QX.Fun TYok | exact QX.Cut TYok | exact QCd (h1)); exact rfl) | refine SX.Alloc TYok (h := ?_) | refine SX.Store TYok (h := ?_) | refine SX.Box TYok (h := ?_) | (apply S_callp (hV) (g := 1000000); exact rfl; exact rfl; exact rfl; exact rfl; (first | assumption | exact ⟨_, rfl, by assumption⟩); exact EvD.auto; intro _ hI2) | refine SC ?_ | (apply S_isnil TYok; exact rfl; exact rfl; exact rfl; exact Ev.auto; intro bn hnil) | (apply W.draw2 (id := 9) [0, 1, 3, 7, 0, 0, 63] [[0], [51], [52], [53], [8], [11]] 6 [(51, 1), (52, 2251799813685248), (53, 4503599627370496), (54, 9007199254740992), (55, 256), (56, 2048)] mixed (by kernel_rfl) rfl rfl) | (refine W.condA (ht := fun hb => ?_) (hf := fun hb => ?_) <;> (try simp at hb) <;> (try (exfalso; omega))))
      all_goals first
        | exact FinP.ret 1000000 rfl hI2 rfl ResM.auto
        | trace_state
  | ok v =>
    have he : okF v := hf
    replace hV : PCalls Try.prog 28 4 (fun b => [.one (.ptr (cellsR lets en b)), aE (nth lets i).body, cI i]) (.tup [zF v, cI 0]) (InvR lets en) := hV
    show PCalls Try.prog 45 4 (fun b => [.one (.ptr (cellsR lets en b)), cS s, cI n]) (.tup [zF v, cI 0]) (InvR lets en)
    refine PCalls.of_M TYok (z := 4) (qs := [zF v, cI 0]) [.cell 6 40, .tmp 7] 59 Try.func45 (by kernel_rfl) rfl rfl rfl fun G b rows hI => ?_
    simp only [St.initP, initEnv, Nat.reduceAdd, List.cons_append, List.nil_append]
    obtain ⟨M, rfl, hM⟩ := hI
    have hput : ∀ M2, InvM lets en M2 → InvR lets en ((mput M2 (i : Int) v).map (mrow kI encQ)) := fun M2 h2 => ⟨_, rfl, fun k w hk => by
      rw [mget_mput] at hk
      split at hk
      · rename_i e
        subst e
        obtain rfl := Option.some.inj hk
        exact ⟨by omega, by omega, by rw [Int.toNat_natCast]; exact hR⟩
      · exact h2 k w hk⟩
    cases hg : mget M (i : Int) with
    | some w =>
      have := (hM _ _ hg).2.2
      rw [Int.toNat_natCast, hR] at this
      obtain rfl : v = w := by cases this; rfl
      repeat' (first | (refine W.weaken (Le.freeze1 (m := 4) rfl) ?_) | ((first | apply U_ | apply Lex.u | (apply Lex.g; exact rfl; exact rfl) | (apply Lex.gq; exact rfl; exact rfl)); (first | (apply Q_lookS TYok KI (vc := encQ) hg; exact Ev.auto; exact rfl; exact Ev.auto; exact rfl; exact rfl; exact rfl) | (apply Q_loadMp TYok (g := 1000000); exact rfl; exact rfl; exact rfl; exact rfl; exact rfl; exact Ev.auto) | exact QX.B TYok | exact QX.Nil TYok | exact QX.Idx TYok | exact QX.Ext TYok | exact QX.Build TYok | exact QX.Fun TYok | exact QX.Cut TYok | exact QCd (h1)); exact rfl) | refine SX.Alloc TYok (h := ?_) | refine SX.Store TYok (h := ?_) | refine SX.Box TYok (h := ?_) | refine SC ?_ | (apply S_isnil TYok; exact rfl; exact rfl; exact rfl; exact Ev.auto; intro bn hnil) | (apply W.draw2 (id := 9) [0, 1, 3, 7, 0, 0, 63] [[0], [51], [52], [53], [8], [11]] 6 [(51, 1), (52, 2251799813685248), (53, 4503599627370496), (54, 9007199254740992), (55, 256), (56, 2048)] mixed (by kernel_rfl) rfl rfl) | (refine W.condA (ht := fun hb => ?_) (hf := fun hb => ?_) <;> (try simp at hb) <;> (try (exfalso; omega))))
      all_goals first
        | exact FinP.ret 1000000 rfl ⟨M, rfl, hM⟩ rfl ResM.auto
        | trace_state
    | none =>
      repeat' (first | (refine W.weaken (Le.freeze1 (m := 4) rfl) ?_) | ((first | apply U_ | apply Lex.u | (apply Lex.g; exact rfl; exact rfl) | (apply Lex.gq; exact rfl; exact rfl)); (first | (apply Q_lookN TYok KI (vc := encQ) hg; exact Ev.auto; exact rfl; exact Ev.auto; exact rfl; exact rfl; exact rfl) | (apply Q_loadMp TYok (g := 1000000); exact rfl; exact rfl; exact rfl; exact rfl; exact rfl; exact Ev.auto) | exact QX.B TYok | exact QX.Nil TYok | exact QX.Idx TYok | exact QX.Ext TYok | exact QX.Build TYok | exact QX.Fun TYok | exact QX.Cut TYok | exact QCd (h1)); exact rfl) | refine SX.Alloc TYok (h := ?_) | refine SX.Store TYok (h := ?_) | refine SX.Box TYok (h := ?_) | (apply S_callp (hV) (g := 1000000); exact rfl; exact rfl; exact rfl; exact rfl; (first | assumption | exact ⟨_, rfl, by assumption⟩); exact EvD.auto; (intro _ hI2; obtain ⟨M2, rfl, hM2⟩ := hI2)) | (apply S_mapUpdate TYok KI (vc := encQ) (v := v); exact Ev.auto; exact rfl; exact Ev.auto; exact Ev.auto; exact rfl; exact rfl; exact rfl) | refine SC ?_ | (apply S_isnil TYok; exact rfl; exact rfl; exact rfl; exact Ev.auto; intro bn hnil) | (apply W.draw2 (id := 9) [0, 1, 3, 7, 0, 0, 63] [[0, 1000000], [51, 1000000], [52, 1000000], [53, 1000000], [8, 1000000], [11, 1000000]] 6 [(51, 1), (52, 2251799813685248), (53, 4503599627370496), (54, 9007199254740992), (55, 256), (56, 2048)] mixed (by kernel_rfl) rfl rfl) | (refine W.condA (ht := fun hb => ?_) (hf := fun hb => ?_) <;> (try simp at hb) <;> (try (exfalso; omega))))
      all_goals first
        | exact FinP.ret 1000000 rfl (hput _ hM2) rfl ResM.auto
        | trace_state
end
end Go.Proofs.Ytjedkgogjehigaa
end
section
set_option linter.unusedVariables false
set_option linter.unusedSimpArgs false
set_option maxHeartbeats 8000000
set_option linter.unusedSectionVars false
namespace Go.Proofs.Ytjedkgogjehigaa
open Lf Go
attribute [local irreducible] PureOp EffOp Ev RG W Then InBlock Lf.Fin nth App InitE Pick SubE EvL EvD EvP EvR ResL Lf.Lex SubR SubBR EvC FinO FinM ResM ResD FinS val pw digs trimL
section
variable {lets : List Let} {en : EnvQ}
theorem vname_ok (hL : LetsOk lets) (he : en.Ok) (n : Nat) (hn : n ≤ lets.length) (s : Str) (ih : ∀ i, i < n → VCalls lets en 28 [aE (nth lets i).body, cI (i : Int)] (valF lets en i (nth lets i).body)) : VCalls lets en 45 [cS s, cI (n : Int)] (lookN lets (tabF lets en n) s) := by
  unfold lookN
  rw [tabF_len]
  by_cases h : (lets.take n).any (nameEq s) = true
  · rw [if_pos h]
    have hin := hit_ix hn h rfl
    have e1 := tabF_nth lets en hin
    have e2 := tabF_nth lets en (show (lets.take n).findIdx (nameEq s) < lets.length by omega)
    have hf := tabF_fit he hL n hn _ (nth_mem (l := tabF lets en n) (k := (lets.take n).findIdx (nameEq s)) (by rw [tabF_len]; exact hin))
    refine name_hit hL n hn s _ h rfl _ (by rw [e1, e2]) hf ?_
    rw [e1]
    exact ih _ hin
  · rw [if_neg h]
    exact name_none hL n hn s (by simpa using h)
attribute [local irreducible] sgn mag gcdZ quoZ remZ fullZ fullE
abbrev aOp (op k u : Int) (s : Str) (l : List Exp) : PV := .agg [.int .i64 op, .int .i64 k, .int .i64 u, .str s, .sl (l.map encX)]
variable {op k u : Int} {s : Str} {l : List Exp} {n : Nat}
theorem v_num (r : Rat) (h : ACalls Try.prog 44 [cI k, cI (if u = 2 then 1000 else 1)] (.tup [zF r, cI 0])) : VCalls lets en 28 [aOp 0 k u s l, cI (n : Int)] (.ok r) := by
  show PCalls Try.prog 28 4 (fun b => [.one (.ptr (cellsR lets en b)), aOp 0 k u s l, cI (n : Int)]) (.tup [zF r, cI 0]) (InvR lets en)
  by_cases hu : u = 2
  · rw [if_pos hu] at h
    refine PCalls.of_M TYok (z := 4) (qs := [zF r, cI 0]) [.cell 6 40, .tmp 7] 167 Try.func28 (by kernel_rfl) rfl rfl rfl fun G b rows hI => ?_
    simp only [St.initP, initEnv, Nat.reduceAdd, List.cons_append, List.nil_append]
    repeat' (first | ((first | apply U_ | (apply Ug_; exact rfl; exact rfl) | (apply Ugq_; exact rfl; exact rfl) | apply Lex.u | (apply Lex.g; exact rfl; exact rfl) | (apply Lex.gq; exact rfl; exact rfl)); (first | exact QX.B TYok | exact QX.Nil TYok | exact QX.Idx TYok | exact QX.Ext TYok | exact QX.Build TYok | exact QCd (h)); exact rfl) | refine SX.Alloc TYok (h := ?_) | refine SX.Store TYok (h := ?_) | refine SX.Box TYok (h := ?_) | refine SC ?_ | (apply S_isnil TYok; exact rfl; exact rfl; exact rfl; exact Ev.auto; intro bn hnil) | (apply RG.gT; exact rfl; exact rfl; (first | assumption | decide)) | (apply RG.gF; exact rfl; exact rfl; (first | assumption | decide | (rw [ne_eq, Bool.not_eq_true]; assumption) | (rw [ne_eq, Bool.not_eq_false]; assumption)); exact rfl) | (apply W.draw2 (id := 9) [0, 1, 3, 7, 15, 0, 32, 96, 224, 480, 0, 1024, 4095, 8191, 8191, 32767, 65535] [[0], [40], [41], [42], [43], [0], [45], [46], [47], [48], [4], [50], [44, 49, 51], [52], [52]] 15 [(40, 1), (41, 1099511627776), (42, 2199023255552), (43, 4398046511104), (44, 8796093022208), (45, 1), (46, 35184372088832), (47, 70368744177664), (48, 140737488355328), (49, 281474976710656), (50, 16), (51, 1125899906842624), (52, 2832341953150976), (53, 4503599627370496), (54, 4503599627370496)] mixed (by kernel_rfl) rfl rfl) | (apply W.draw2 (id := 11) [0, 1, 3, 7, 15, 0, 32, 96, 224, 480, 0, 1024, 4095, 8191, 8191, 32767, 65535] [[0], [57], [58], [59], [60], [0], [62], [63], [64], [65], [4], [67], [61, 66, 68], [69], [69]] 15 [(57, 1), (58, 144115188075855872), (59, 288230376151711744), (60, 576460752303423488), (61, 1152921504606846976), (62, 1), (63, 4611686018427387904), (64, 9223372036854775808), (65, 18446744073709551616), (66, 36893488147419103232), (67, 16), (68, 147573952589676412928), (69, 371240724483404726272), (70, 590295810358705651712), (71, 590295810358705651712)] mixed (by kernel_rfl) rfl rfl) | (refine W.condA (ht := fun hb => ?_) (hf := fun hb => ?_) <;> (try simp at hb) <;> (try (exfalso; omega))))
    all_goals exact FinP.ret 1000000 rfl hI rfl ResM.auto
  · rw [if_neg hu] at h
    refine PCalls.of_M TYok (z := 4) (qs := [zF r, cI 0]) [.cell 6 40, .tmp 7] 167 Try.func28 (by kernel_rfl) rfl rfl rfl fun G b rows hI => ?_
    simp only [St.initP, initEnv, Nat.reduceAdd, List.cons_append, List.nil_append]
    repeat' (first | ((first | apply U_ | (apply Ug_; exact rfl; exact rfl) | (apply Ugq_; exact rfl; exact rfl) | apply Lex.u | (apply Lex.g; exact rfl; exact rfl) | (apply Lex.gq; exact rfl; exact rfl)); (first | exact QX.B TYok | exact QX.Nil TYok | exact QX.Idx TYok | exact QX.Ext TYok | exact QX.Build TYok | exact QCd (h)); exact rfl) | refine SX.Alloc TYok (h := ?_) | refine SX.Store TYok (h := ?_) | refine SX.Box TYok (h := ?_) | refine SC ?_ | (apply S_isnil TYok; exact rfl; exact rfl; exact rfl; exact Ev.auto; intro bn hnil) | (apply RG.gT; exact rfl; exact rfl; (first | assumption | decide)) | (apply RG.gF; exact rfl; exact rfl; (first | assumption | decide | (rw [ne_eq, Bool.not_eq_true]; assumption) | (rw [ne_eq, Bool.not_eq_false]; assumption)); exact rfl) | (apply W.draw2 (id := 9) [0, 1, 3, 7, 15, 0, 32, 96, 224, 480, 0, 1024, 4095, 8191, 8191, 32767, 65535] [[0], [40], [41], [42], [43], [0], [45], [46], [47], [48], [4], [50], [44, 49, 51], [52], [52]] 15 [(40, 1), (41, 1099511627776), (42, 2199023255552), (43, 4398046511104), (44, 8796093022208), (45, 1), (46, 35184372088832), (47, 70368744177664), (48, 140737488355328), (49, 281474976710656), (50, 16), (51, 1125899906842624), (52, 2832341953150976), (53, 4503599627370496), (54, 4503599627370496)] mixed (by kernel_rfl) rfl rfl) | (apply W.draw2 (id := 11) [0, 1, 3, 7, 15, 0, 32, 96, 224, 480, 0, 1024, 4095, 8191, 8191, 32767, 65535] [[0], [57], [58], [59], [60], [0], [62], [63], [64], [65], [4], [67], [61, 66, 68], [69], [69]] 15 [(57, 1), (58, 144115188075855872), (59, 288230376151711744), (60, 576460752303423488), (61, 1152921504606846976), (62, 1), (63, 4611686018427387904), (64, 9223372036854775808), (65, 18446744073709551616), (66, 36893488147419103232), (67, 16), (68, 147573952589676412928), (69, 371240724483404726272), (70, 590295810358705651712), (71, 590295810358705651712)] mixed (by kernel_rfl) rfl rfl) | (refine W.condA (ht := fun hb => ?_) (hf := fun hb => ?_) <;> (try simp at hb) <;> (try (exfalso; omega))))
    all_goals exact FinP.ret 1000000 rfl hI rfl ResM.auto
theorem v_name (R : Rs) (h : VCalls lets en 45 [cS s, cI (n : Int)] R) : VCalls lets en 28 [aOp 1 k u s l, cI (n : Int)] R := by
  obtain ⟨x1, x2, x3, x4, hv⟩ := R.v_agg
  replace h : PCalls Try.prog 45 4 (fun b => [.one (.ptr (cellsR lets en b)), cS s, cI (n : Int)]) (.tup [R.v, cI R.e]) (InvR lets en) := h
  show PCalls Try.prog 28 4 (fun b => [.one (.ptr (cellsR lets en b)), aOp 1 k u s l, cI (n : Int)]) (.tup [R.v, cI R.e]) (InvR lets en)
  rw [hv] at h ⊢
  generalize R.e = e at *
  refine PCalls.of_M TYok (z := 4) (qs := [.agg [.int .i64 x1, .sl (x2.map Lf.encI), .int .i64 x3, .sl (x4.map Lf.encI)], cI e]) [.cell 6 40, .tmp 7] 167 Try.func28 (by kernel_rfl) rfl rfl rfl fun G b rows hI => ?_
  simp only [St.initP, initEnv, Nat.reduceAdd, List.cons_append, List.nil_append]
  repeat' (first | ((first | apply U_ | (apply Ug_; exact rfl; exact rfl) | (apply Ugq_; exact rfl; exact rfl) | apply Lex.u | (apply Lex.g; exact rfl; exact rfl) | (apply Lex.gq; exact rfl; exact rfl)); (first | exact QX.B TYok | exact QX.Nil TYok | exact QX.Idx TYok | exact QX.Ext TYok | exact QX.Build TYok); exact rfl) | refine SX.Alloc TYok (h := ?_) | refine SX.Store TYok (h := ?_) | refine SX.Box TYok (h := ?_) | (apply S_callp (h) (g := 1000000); exact rfl; exact rfl; exact rfl; exact rfl; (first | assumption | exact ⟨_, rfl, by assumption⟩); exact EvD.auto; intro _ hI2) | refine SC ?_ | (apply S_isnil TYok; exact rfl; exact rfl; exact rfl; exact Ev.auto; intro bn hnil) | (apply RG.gT; exact rfl; exact rfl; (first | assumption | decide)) | (apply RG.gF; exact rfl; exact rfl; (first | assumption | decide | (rw [ne_eq, Bool.not_eq_true]; assumption) | (rw [ne_eq, Bool.not_eq_false]; assumption)); exact rfl) | (apply W.draw2 (id := 9) [0, 1, 3, 7, 15, 0, 32, 96, 224, 480, 0, 1024, 4095, 8191, 8191, 32767, 65535] [[0], [40], [41], [42], [43], [0], [45], [46], [47], [48], [4], [50], [44, 49, 51], [52], [52]] 15 [(40, 1), (41, 1099511627776), (42, 2199023255552), (43, 4398046511104), (44, 8796093022208), (45, 1), (46, 35184372088832), (47, 70368744177664), (48, 140737488355328), (49, 281474976710656), (50, 16), (51, 1125899906842624), (52, 2832341953150976), (53, 4503599627370496), (54, 4503599627370496)] mixed (by kernel_rfl) rfl rfl) | (apply W.draw2 (id := 11) [0, 1, 3, 7, 15, 0, 32, 96, 224, 480, 0, 1024, 4095, 8191, 8191, 32767, 65535] [[0], [57], [58], [59], [60], [0], [62], [63], [64], [65], [4], [67], [61, 66, 68], [69], [69]] 15 [(57, 1), (58, 144115188075855872), (59, 288230376151711744), (60, 576460752303423488), (61, 1152921504606846976), (62, 1), (63, 4611686018427387904), (64, 9223372036854775808), (65, 18446744073709551616), (66, 36893488147419103232), (67, 16), (68, 147573952589676412928), (69, 371240724483404726272), (70, 590295810358705651712), (71, 590295810358705651712)] mixed (by kernel_rfl) rfl rfl) | (refine W.condA (ht := fun hb => ?_) (hf := fun hb => ?_) <;> (try simp at hb) <;> (try (exfalso; omega))))
  all_goals exact FinP.ret 1000000 rfl hI2 rfl ResM.auto
theorem v_look (R : Rs) (hop : (op = 2 ∧ R = lookF en.names en.vals s) ∨ (op = 3 ∧ R = lookF en.iss en.rates s)) (he : en.Ok) : VCalls lets en 28 [aOp op k u s l, cI (n : Int)] R := by
  have h1 := lookup_ok en.names en.vals s he.b1 he.l1
  have h2 := lookup_ok en.iss en.rates s he.b2 he.l2
  obtain ⟨x1, x2, x3, x4, hv⟩ := R.v_agg
  show PCalls Try.prog 28 4 (fun b => [.one (.ptr (cellsR lets en b)), aOp op k u s l, cI (n : Int)]) (.tup [R.v, cI R.e]) (InvR lets en)
  rcases hop with ⟨rfl, hR⟩ | ⟨rfl, hR⟩
  · rw [← hR] at h1
    unfold resP at h1
    rw [hv] at h1 ⊢
    clear h2 hR
    generalize R.e = e at *
    refine PCalls.of_M TYok (z := 4) (qs := [.agg [.int .i64 x1, .sl (x2.map Lf.encI), .int .i64 x3, .sl (x4.map Lf.encI)], cI e]) [.cell 6 40, .tmp 7] 167 Try.func28 (by kernel_rfl) rfl rfl rfl fun G b rows hI => ?_
    simp only [St.initP, initEnv, Nat.reduceAdd, List.cons_append, List.nil_append]
    repeat' (first | ((first | apply U_ | (apply Ug_; exact rfl; exact rfl) | (apply Ugq_; exact rfl; exact rfl) | apply Lex.u | (apply Lex.g; exact rfl; exact rfl) | (apply Lex.gq; exact rfl; exact rfl)); (first | exact QX.B TYok | exact QX.Nil TYok | exact QX.Idx TYok | exact QX.Ext TYok | exact QX.Build TYok | exact QCd (h1)); exact rfl) | refine SX.Alloc TYok (h := ?_) | refine SX.Store TYok (h := ?_) | refine SX.Box TYok (h := ?_) | refine SC ?_ | (apply S_isnil TYok; exact rfl; exact rfl; exact rfl; exact Ev.auto; intro bn hnil) | (apply RG.gT; exact rfl; exact rfl; (first | assumption | decide)) | (apply RG.gF; exact rfl; exact rfl; (first | assumption | decide | (rw [ne_eq, Bool.not_eq_true]; assumption) | (rw [ne_eq, Bool.not_eq_false]; assumption)); exact rfl) | (apply W.draw2 (id := 9) [0, 1, 3, 7, 15, 0, 32, 96, 224, 480, 0, 1024, 4095, 8191, 8191, 32767, 65535] [[0], [40], [41], [42], [43], [0], [45], [46], [47], [48], [4], [50], [44, 49, 51], [52], [52]] 15 [(40, 1), (41, 1099511627776), (42, 2199023255552), (43, 4398046511104), (44, 8796093022208), (45, 1), (46, 35184372088832), (47, 70368744177664), (48, 140737488355328), (49, 281474976710656), (50, 16), (51, 1125899906842624), (52, 2832341953150976), (53, 4503599627370496), (54, 4503599627370496)] mixed (by kernel_rfl) rfl rfl) | (apply W.draw2 (id := 11) [0, 1, 3, 7, 15, 0, 32, 96, 224, 480, 0, 1024, 4095, 8191, 8191, 32767, 65535] [[0], [57], [58], [59], [60], [0], [62], [63], [64], [65], [4], [67], [61, 66, 68], [69], [69]] 15 [(57, 1), (58, 144115188075855872), (59, 288230376151711744), (60, 576460752303423488), (61, 1152921504606846976), (62, 1), (63, 4611686018427387904), (64, 9223372036854775808), (65, 18446744073709551616), (66, 36893488147419103232), (67, 16), (68, 147573952589676412928), (69, 371240724483404726272), (70, 590295810358705651712), (71, 590295810358705651712)] mixed (by kernel_rfl) rfl rfl) | (refine W.condA (ht := fun hb => ?_) (hf := fun hb => ?_) <;> (try simp at hb) <;> (try (exfalso; omega))))
    all_goals exact FinP.ret 1000000 rfl hI rfl ResM.auto
  · rw [← hR] at h2
    unfold resP at h2
    rw [hv] at h2 ⊢
    clear h1 hR
    generalize R.e = e at *
    refine PCalls.of_M TYok (z := 4) (qs := [.agg [.int .i64 x1, .sl (x2.map Lf.encI), .int .i64 x3, .sl (x4.map Lf.encI)], cI e]) [.cell 6 40, .tmp 7] 167 Try.func28 (by kernel_rfl) rfl rfl rfl fun G b rows hI => ?_
    simp only [St.initP, initEnv, Nat.reduceAdd, List.cons_append, List.nil_append]
    repeat' (first | ((first | apply U_ | (apply Ug_; exact rfl; exact rfl) | (apply Ugq_; exact rfl; exact rfl) | apply Lex.u | (apply Lex.g; exact rfl; exact rfl) | (apply Lex.gq; exact rfl; exact rfl)); (first | exact QX.B TYok | exact QX.Nil TYok | exact QX.Idx TYok | exact QX.Ext TYok | exact QX.Build TYok | exact QCd (h2)); exact rfl) | refine SX.Alloc TYok (h := ?_) | refine SX.Store TYok (h := ?_) | refine SX.Box TYok (h := ?_) | refine SC ?_ | (apply S_isnil TYok; exact rfl; exact rfl; exact rfl; exact Ev.auto; intro bn hnil) | (apply RG.gT; exact rfl; exact rfl; (first | assumption | decide)) | (apply RG.gF; exact rfl; exact rfl; (first | assumption | decide | (rw [ne_eq, Bool.not_eq_true]; assumption) | (rw [ne_eq, Bool.not_eq_false]; assumption)); exact rfl) | (apply W.draw2 (id := 9) [0, 1, 3, 7, 15, 0, 32, 96, 224, 480, 0, 1024, 4095, 8191, 8191, 32767, 65535] [[0], [40], [41], [42], [43], [0], [45], [46], [47], [48], [4], [50], [44, 49, 51], [52], [52]] 15 [(40, 1), (41, 1099511627776), (42, 2199023255552), (43, 4398046511104), (44, 8796093022208), (45, 1), (46, 35184372088832), (47, 70368744177664), (48, 140737488355328), (49, 281474976710656), (50, 16), (51, 1125899906842624), (52, 2832341953150976), (53, 4503599627370496), (54, 4503599627370496)] mixed (by kernel_rfl) rfl rfl) | (apply W.draw2 (id := 11) [0, 1, 3, 7, 15, 0, 32, 96, 224, 480, 0, 1024, 4095, 8191, 8191, 32767, 65535] [[0], [57], [58], [59], [60], [0], [62], [63], [64], [65], [4], [67], [61, 66, 68], [69], [69]] 15 [(57, 1), (58, 144115188075855872), (59, 288230376151711744), (60, 576460752303423488), (61, 1152921504606846976), (62, 1), (63, 4611686018427387904), (64, 9223372036854775808), (65, 18446744073709551616), (66, 36893488147419103232), (67, 16), (68, 147573952589676412928), (69, 371240724483404726272), (70, 590295810358705651712), (71, 590295810358705651712)] mixed (by kernel_rfl) rfl rfl) | (refine W.condA (ht := fun hb => ?_) (hf := fun hb => ?_) <;> (try simp at hb) <;> (try (exfalso; omega))))
    all_goals exact FinP.ret 1000000 rfl hI rfl ResM.auto
abbrev Arg (lets : List Let) (en : EnvQ) (l : List Exp) (n : Nat) (j : Nat) (v : PV) (e : Int) : Prop := PCalls Try.prog 28 4 (fun b => [.one (.ptr (cellsR lets en b)), aE (nth l j), cI (n : Int)]) (.tup [v, cI e]) (InvR lets en)
theorem v_bad {e : Int} (he : e ≠ 0) (hop : op ≠ 0 ∧ op ≠ 1 ∧ op ≠ 2 ∧ op ≠ 3) (hl : 0 < l.length) (h0 : Arg lets en l n 0 zF0 e) : VCalls lets en 28 [aOp op k u s l, cI (n : Int)] (.err e) := by
  show PCalls Try.prog 28 4 (fun b => [.one (.ptr (cellsR lets en b)), aOp op k u s l, cI (n : Int)]) (.tup [zF0, cI e]) (InvR lets en)
  refine PCalls.of_M TYok (z := 4) (qs := [zF0, cI e]) [.cell 6 40, .tmp 7] 167 Try.func28 (by kernel_rfl) rfl rfl rfl fun G b rows hI => ?_
  simp only [St.initP, initEnv, Nat.reduceAdd, List.cons_append, List.nil_append]
  repeat' (first | ((first | apply U_ | (apply Ug_; exact rfl; exact rfl) | (apply Ugq_; exact rfl; exact rfl) | apply Lex.u | (apply Lex.g; exact rfl; exact rfl) | (apply Lex.gq; exact rfl; exact rfl)); (first | exact QX.B TYok | exact QX.Nil TYok | exact QX.Idx TYok | exact QX.Ext TYok | exact QX.Build TYok); exact rfl) | refine SX.Alloc TYok (h := ?_) | refine SX.Store TYok (h := ?_) | refine SX.Box TYok (h := ?_) | (apply S_callp (h0) (g := 1000000); exact rfl; exact rfl; exact rfl; exact rfl; (first | assumption | exact ⟨_, rfl, by assumption⟩); exact EvD.auto; intro _ hI2) | refine SC ?_ | (apply S_isnil TYok; exact rfl; exact rfl; exact rfl; exact Ev.auto; intro bn hnil) | (apply RG.gT; exact rfl; exact rfl; (first | assumption | decide)) | (apply RG.gF; exact rfl; exact rfl; (first | assumption | decide | (rw [ne_eq, Bool.not_eq_true]; assumption) | (rw [ne_eq, Bool.not_eq_false]; assumption)); exact rfl) | (apply W.draw2 (id := 9) [0, 1, 3, 7, 15, 0, 32, 96, 224, 480, 0, 1024, 4095, 8191, 8191, 32767, 65535] [[0], [40], [41], [42], [43], [0], [45], [46], [47], [48], [4], [50], [44, 49, 51], [52], [52]] 15 [(40, 1), (41, 1099511627776), (42, 2199023255552), (43, 4398046511104), (44, 8796093022208), (45, 1), (46, 35184372088832), (47, 70368744177664), (48, 140737488355328), (49, 281474976710656), (50, 16), (51, 1125899906842624), (52, 2832341953150976), (53, 4503599627370496), (54, 4503599627370496)] mixed (by kernel_rfl) rfl rfl) | (apply W.draw2 (id := 11) [0, 1, 3, 7, 15, 0, 32, 96, 224, 480, 0, 1024, 4095, 8191, 8191, 32767, 65535] [[0], [57], [58], [59], [60], [0], [62], [63], [64], [65], [4], [67], [61, 66, 68], [69], [69]] 15 [(57, 1), (58, 144115188075855872), (59, 288230376151711744), (60, 576460752303423488), (61, 1152921504606846976), (62, 1), (63, 4611686018427387904), (64, 9223372036854775808), (65, 18446744073709551616), (66, 36893488147419103232), (67, 16), (68, 147573952589676412928), (69, 371240724483404726272), (70, 590295810358705651712), (71, 590295810358705651712)] mixed (by kernel_rfl) rfl rfl) | (refine W.condA (ht := fun hb => ?_) (hf := fun hb => ?_) <;> (try simp at hb) <;> (try (exfalso; omega))))
  all_goals exact FinP.ret 1000000 rfl hI2 rfl (ResM.cell rfl rfl rfl rfl zeroSubF (ResM.tmp rfl rfl PSub.rfl' ResM.nil))
theorem v_not {a : Rat} (hl : 0 < l.length) (h0 : Arg lets en l n 0 (zF a) 0) : VCalls lets en 28 [aOp 12 k u s l, cI (n : Int)] (.ok (one01 (decide (sgn a.num = 0)))) := by
  have t1 := truth_ok (!!decide (sgn a.num = 0))
  rw [show one01 (!!decide (sgn a.num = 0)) = one01 (decide (sgn a.num = 0)) by rw [Bool.not_not]] at t1
  show PCalls Try.prog 28 4 (fun b => [.one (.ptr (cellsR lets en b)), aOp 12 k u s l, cI (n : Int)]) (.tup [zF (one01 (decide (sgn a.num = 0))), cI 0]) (InvR lets en)
  generalize one01 (decide (sgn a.num = 0)) = r at *
  refine PCalls.of_M TYok (z := 4) (qs := [zF r, cI 0]) [.cell 6 40, .tmp 7] 167 Try.func28 (by kernel_rfl) rfl rfl rfl fun G b rows hI => ?_
  simp only [St.initP, initEnv, Nat.reduceAdd, List.cons_append, List.nil_append]
  repeat' (first | ((first | apply U_ | (apply Ug_; exact rfl; exact rfl) | (apply Ugq_; exact rfl; exact rfl) | apply Lex.u | (apply Lex.g; exact rfl; exact rfl) | (apply Lex.gq; exact rfl; exact rfl)); (first | exact QX.B TYok | exact QX.Nil TYok | exact QX.Idx TYok | exact QX.Ext TYok | exact QX.Build TYok | exact QCd (t1)); exact rfl) | refine SX.Alloc TYok (h := ?_) | refine SX.Store TYok (h := ?_) | refine SX.Box TYok (h := ?_) | (apply S_callp (h0) (g := 1000000); exact rfl; exact rfl; exact rfl; exact rfl; (first | assumption | exact ⟨_, rfl, by assumption⟩); exact EvD.auto; intro _ hI2) | refine SC ?_ | (apply S_isnil TYok; exact rfl; exact rfl; exact rfl; exact Ev.auto; intro bn hnil) | (apply RG.gT; exact rfl; exact rfl; (first | assumption | decide)) | (apply RG.gF; exact rfl; exact rfl; (first | assumption | decide | (rw [ne_eq, Bool.not_eq_true]; assumption) | (rw [ne_eq, Bool.not_eq_false]; assumption)); exact rfl) | (apply W.draw2 (id := 9) [0, 1, 3, 7, 15, 0, 32, 96, 224, 480, 0, 1024, 4095, 8191, 8191, 32767, 65535] [[0], [40], [41], [42], [43], [0], [45], [46], [47], [48], [4], [50], [44, 49, 51], [52], [52]] 15 [(40, 1), (41, 1099511627776), (42, 2199023255552), (43, 4398046511104), (44, 8796093022208), (45, 1), (46, 35184372088832), (47, 70368744177664), (48, 140737488355328), (49, 281474976710656), (50, 16), (51, 1125899906842624), (52, 2832341953150976), (53, 4503599627370496), (54, 4503599627370496)] mixed (by kernel_rfl) rfl rfl) | (apply W.draw2 (id := 11) [0, 1, 3, 7, 15, 0, 32, 96, 224, 480, 0, 1024, 4095, 8191, 8191, 32767, 65535] [[0], [57], [58], [59], [60], [0], [62], [63], [64], [65], [4], [67], [61, 66, 68], [69], [69]] 15 [(57, 1), (58, 144115188075855872), (59, 288230376151711744), (60, 576460752303423488), (61, 1152921504606846976), (62, 1), (63, 4611686018427387904), (64, 9223372036854775808), (65, 18446744073709551616), (66, 36893488147419103232), (67, 16), (68, 147573952589676412928), (69, 371240724483404726272), (70, 590295810358705651712), (71, 590295810358705651712)] mixed (by kernel_rfl) rfl rfl) | (refine W.condA (ht := fun hb => ?_) (hf := fun hb => ?_) <;> (try simp at hb) <;> (try (exfalso; omega))))
  all_goals exact FinP.ret 1000000 rfl hI2 rfl ResM.auto
theorem v_if {a : Rat} {j : Nat} {R : Rs} (hl : l.length = 3) (h0 : Arg lets en l n 0 (zF a) 0) (hj : (sgn a.num = 0 ∧ j = 2) ∨ (sgn a.num ≠ 0 ∧ j = 1)) (h1 : VCalls lets en 28 [aE (nth l j), cI (n : Int)] R) : VCalls lets en 28 [aOp 15 k u s l, cI (n : Int)] R := by
  obtain ⟨x1, x2, x3, x4, hv⟩ := R.v_agg
  replace h1 : PCalls Try.prog 28 4 (fun b => [.one (.ptr (cellsR lets en b)), aE (nth l j), cI (n : Int)]) (.tup [R.v, cI R.e]) (InvR lets en) := h1
  show PCalls Try.prog 28 4 (fun b => [.one (.ptr (cellsR lets en b)), aOp 15 k u s l, cI (n : Int)]) (.tup [R.v, cI R.e]) (InvR lets en)
  rw [hv] at h1 ⊢
  generalize R.e = e at *
  rcases hj with ⟨hz, rfl⟩ | ⟨hz, rfl⟩
  · skip
    refine PCalls.of_M TYok (z := 4) (qs := [.agg [.int .i64 x1, .sl (x2.map Lf.encI), .int .i64 x3, .sl (x4.map Lf.encI)], cI e]) [.cell 6 40, .tmp 7] 167 Try.func28 (by kernel_rfl) rfl rfl rfl fun G b rows hI => ?_
    simp only [St.initP, initEnv, Nat.reduceAdd, List.cons_append, List.nil_append]
    repeat' (first | ((first | apply U_ | (apply Ug_; exact rfl; exact rfl) | (apply Ugq_; exact rfl; exact rfl) | apply Lex.u | (apply Lex.g; exact rfl; exact rfl) | (apply Lex.gq; exact rfl; exact rfl)); (first | exact QX.B TYok | exact QX.Nil TYok | exact QX.Idx TYok | exact QX.Ext TYok | exact QX.Build TYok); exact rfl) | refine SX.Alloc TYok (h := ?_) | refine SX.Store TYok (h := ?_) | refine SX.Box TYok (h := ?_) | (apply S_callp (h0) (g := 1000000); exact rfl; exact rfl; exact rfl; exact rfl; (first | assumption | exact ⟨_, rfl, by assumption⟩); exact EvD.auto; intro _ hI2) | (apply S_callp (h1) (g := 1000000); exact rfl; exact rfl; exact rfl; exact rfl; (first | assumption | exact ⟨_, rfl, by assumption⟩); exact EvD.auto; intro _ hI3) | refine SC ?_ | (apply S_isnil TYok; exact rfl; exact rfl; exact rfl; exact Ev.auto; intro bn hnil) | (apply RG.gT; exact rfl; exact rfl; (first | assumption | decide)) | (apply RG.gF; exact rfl; exact rfl; (first | assumption | decide | (rw [ne_eq, Bool.not_eq_true]; assumption) | (rw [ne_eq, Bool.not_eq_false]; assumption)); exact rfl) | (apply W.draw2 (id := 9) [0, 1, 3, 7, 15, 0, 32, 96, 224, 480, 0, 1024, 4095, 8191, 8191, 32767, 65535] [[0], [40], [41], [42], [43], [0], [45], [46], [47], [48], [4], [50], [44, 49, 51], [52], [52]] 15 [(40, 1), (41, 1099511627776), (42, 2199023255552), (43, 4398046511104), (44, 8796093022208), (45, 1), (46, 35184372088832), (47, 70368744177664), (48, 140737488355328), (49, 281474976710656), (50, 16), (51, 1125899906842624), (52, 2832341953150976), (53, 4503599627370496), (54, 4503599627370496)] mixed (by kernel_rfl) rfl rfl) | (apply W.draw2 (id := 11) [0, 1, 3, 7, 15, 0, 32, 96, 224, 480, 0, 1024, 4095, 8191, 8191, 32767, 65535] [[0], [57], [58], [59], [60], [0], [62], [63], [64], [65], [4], [67], [61, 66, 68], [69], [69]] 15 [(57, 1), (58, 144115188075855872), (59, 288230376151711744), (60, 576460752303423488), (61, 1152921504606846976), (62, 1), (63, 4611686018427387904), (64, 9223372036854775808), (65, 18446744073709551616), (66, 36893488147419103232), (67, 16), (68, 147573952589676412928), (69, 371240724483404726272), (70, 590295810358705651712), (71, 590295810358705651712)] mixed (by kernel_rfl) rfl rfl) | (refine W.condA (ht := fun hb => ?_) (hf := fun hb => ?_) <;> (try simp at hb) <;> (try (exfalso; omega))))
    all_goals exact FinP.ret 1000000 rfl hI3 rfl ResM.auto
  · skip
    refine PCalls.of_M TYok (z := 4) (qs := [.agg [.int .i64 x1, .sl (x2.map Lf.encI), .int .i64 x3, .sl (x4.map Lf.encI)], cI e]) [.cell 6 40, .tmp 7] 167 Try.func28 (by kernel_rfl) rfl rfl rfl fun G b rows hI => ?_
    simp only [St.initP, initEnv, Nat.reduceAdd, List.cons_append, List.nil_append]
    repeat' (first | ((first | apply U_ | (apply Ug_; exact rfl; exact rfl) | (apply Ugq_; exact rfl; exact rfl) | apply Lex.u | (apply Lex.g; exact rfl; exact rfl) | (apply Lex.gq; exact rfl; exact rfl)); (first | exact QX.B TYok | exact QX.Nil TYok | exact QX.Idx TYok | exact QX.Ext TYok | exact QX.Build TYok); exact rfl) | refine SX.Alloc TYok (h := ?_) | refine SX.Store TYok (h := ?_) | refine SX.Box TYok (h := ?_) | (apply S_callp (h0) (g := 1000000); exact rfl; exact rfl; exact rfl; exact rfl; (first | assumption | exact ⟨_, rfl, by assumption⟩); exact EvD.auto; intro _ hI2) | (apply S_callp (h1) (g := 1000000); exact rfl; exact rfl; exact rfl; exact rfl; (first | assumption | exact ⟨_, rfl, by assumption⟩); exact EvD.auto; intro _ hI3) | refine SC ?_ | (apply S_isnil TYok; exact rfl; exact rfl; exact rfl; exact Ev.auto; intro bn hnil) | (apply RG.gT; exact rfl; exact rfl; (first | assumption | decide)) | (apply RG.gF; exact rfl; exact rfl; (first | assumption | decide | (rw [ne_eq, Bool.not_eq_true]; assumption) | (rw [ne_eq, Bool.not_eq_false]; assumption)); exact rfl) | (apply W.draw2 (id := 9) [0, 1, 3, 7, 15, 0, 32, 96, 224, 480, 0, 1024, 4095, 8191, 8191, 32767, 65535] [[0], [40], [41], [42], [43], [0], [45], [46], [47], [48], [4], [50], [44, 49, 51], [52], [52]] 15 [(40, 1), (41, 1099511627776), (42, 2199023255552), (43, 4398046511104), (44, 8796093022208), (45, 1), (46, 35184372088832), (47, 70368744177664), (48, 140737488355328), (49, 281474976710656), (50, 16), (51, 1125899906842624), (52, 2832341953150976), (53, 4503599627370496), (54, 4503599627370496)] mixed (by kernel_rfl) rfl rfl) | (apply W.draw2 (id := 11) [0, 1, 3, 7, 15, 0, 32, 96, 224, 480, 0, 1024, 4095, 8191, 8191, 32767, 65535] [[0], [57], [58], [59], [60], [0], [62], [63], [64], [65], [4], [67], [61, 66, 68], [69], [69]] 15 [(57, 1), (58, 144115188075855872), (59, 288230376151711744), (60, 576460752303423488), (61, 1152921504606846976), (62, 1), (63, 4611686018427387904), (64, 9223372036854775808), (65, 18446744073709551616), (66, 36893488147419103232), (67, 16), (68, 147573952589676412928), (69, 371240724483404726272), (70, 590295810358705651712), (71, 590295810358705651712)] mixed (by kernel_rfl) rfl rfl) | (refine W.condA (ht := fun hb => ?_) (hf := fun hb => ?_) <;> (try simp at hb) <;> (try (exfalso; omega))))
    all_goals exact FinP.ret 1000000 rfl hI3 rfl ResM.auto
theorem v_short {a : Rat} (hl : l.length = 2) (h0 : Arg lets en l n 0 (zF a) 0) (hop : (op = 13 ∧ sgn a.num = 0) ∨ (op = 14 ∧ sgn a.num ≠ 0)) : VCalls lets en 28 [aOp op k u s l, cI (n : Int)] (.ok (one01 (!decide (sgn a.num = 0)))) := by
  have t1 := truth_ok (!decide (sgn a.num = 0))
  show PCalls Try.prog 28 4 (fun b => [.one (.ptr (cellsR lets en b)), aOp op k u s l, cI (n : Int)]) (.tup [zF (one01 (!decide (sgn a.num = 0))), cI 0]) (InvR lets en)
  generalize one01 (!decide (sgn a.num = 0)) = r at *
  rcases hop with ⟨rfl, hz⟩ | ⟨rfl, hz⟩
  · skip
    refine PCalls.of_M TYok (z := 4) (qs := [zF r, cI 0]) [.cell 6 40, .tmp 7] 167 Try.func28 (by kernel_rfl) rfl rfl rfl fun G b rows hI => ?_
    simp only [St.initP, initEnv, Nat.reduceAdd, List.cons_append, List.nil_append]
    repeat' (first | ((first | apply U_ | (apply Ug_; exact rfl; exact rfl) | (apply Ugq_; exact rfl; exact rfl) | apply Lex.u | (apply Lex.g; exact rfl; exact rfl) | (apply Lex.gq; exact rfl; exact rfl)); (first | exact QX.B TYok | exact QX.Nil TYok | exact QX.Idx TYok | exact QX.Ext TYok | exact QX.Build TYok | exact QCd (t1)); exact rfl) | refine SX.Alloc TYok (h := ?_) | refine SX.Store TYok (h := ?_) | refine SX.Box TYok (h := ?_) | (apply S_callp (h0) (g := 1000000); exact rfl; exact rfl; exact rfl; exact rfl; (first | assumption | exact ⟨_, rfl, by assumption⟩); exact EvD.auto; intro _ hI2) | refine SC ?_ | (apply S_isnil TYok; exact rfl; exact rfl; exact rfl; exact Ev.auto; intro bn hnil) | (apply RG.gT; exact rfl; exact rfl; (first | assumption | decide)) | (apply RG.gF; exact rfl; exact rfl; (first | assumption | decide | (rw [ne_eq, Bool.not_eq_true]; assumption) | (rw [ne_eq, Bool.not_eq_false]; assumption)); exact rfl) | (apply W.draw2 (id := 9) [0, 1, 3, 7, 15, 0, 32, 96, 224, 480, 0, 1024, 4095, 8191, 8191, 32767, 65535] [[0], [40], [41], [42], [43], [0], [45], [46], [47], [48], [4], [50], [44, 49, 51], [52], [52]] 15 [(40, 1), (41, 1099511627776), (42, 2199023255552), (43, 4398046511104), (44, 8796093022208), (45, 1), (46, 35184372088832), (47, 70368744177664), (48, 140737488355328), (49, 281474976710656), (50, 16), (51, 1125899906842624), (52, 2832341953150976), (53, 4503599627370496), (54, 4503599627370496)] mixed (by kernel_rfl) rfl rfl) | (apply W.draw2 (id := 11) [0, 1, 3, 7, 15, 0, 32, 96, 224, 480, 0, 1024, 4095, 8191, 8191, 32767, 65535] [[0], [57], [58], [59], [60], [0], [62], [63], [64], [65], [4], [67], [61, 66, 68], [69], [69]] 15 [(57, 1), (58, 144115188075855872), (59, 288230376151711744), (60, 576460752303423488), (61, 1152921504606846976), (62, 1), (63, 4611686018427387904), (64, 9223372036854775808), (65, 18446744073709551616), (66, 36893488147419103232), (67, 16), (68, 147573952589676412928), (69, 371240724483404726272), (70, 590295810358705651712), (71, 590295810358705651712)] mixed (by kernel_rfl) rfl rfl) | (refine W.condA (ht := fun hb => ?_) (hf := fun hb => ?_) <;> (try simp at hb) <;> (try (exfalso; omega))))
    all_goals exact FinP.ret 1000000 rfl hI2 rfl ResM.auto
  · skip
    refine PCalls.of_M TYok (z := 4) (qs := [zF r, cI 0]) [.cell 6 40, .tmp 7] 167 Try.func28 (by kernel_rfl) rfl rfl rfl fun G b rows hI => ?_
    simp only [St.initP, initEnv, Nat.reduceAdd, List.cons_append, List.nil_append]
    repeat' (first | ((first | apply U_ | (apply Ug_; exact rfl; exact rfl) | (apply Ugq_; exact rfl; exact rfl) | apply Lex.u | (apply Lex.g; exact rfl; exact rfl) | (apply Lex.gq; exact rfl; exact rfl)); (first | exact QX.B TYok | exact QX.Nil TYok | exact QX.Idx TYok | exact QX.Ext TYok | exact QX.Build TYok | exact QCd (t1)); exact rfl) | refine SX.Alloc TYok (h := ?_) | refine SX.Store TYok (h := ?_) | refine SX.Box TYok (h := ?_) | (apply S_callp (h0) (g := 1000000); exact rfl; exact rfl; exact rfl; exact rfl; (first | assumption | exact ⟨_, rfl, by assumption⟩); exact EvD.auto; intro _ hI2) | refine SC ?_ | (apply S_isnil TYok; exact rfl; exact rfl; exact rfl; exact Ev.auto; intro bn hnil) | (apply RG.gT; exact rfl; exact rfl; (first | assumption | decide)) | (apply RG.gF; exact rfl; exact rfl; (first | assumption | decide | (rw [ne_eq, Bool.not_eq_true]; assumption) | (rw [ne_eq, Bool.not_eq_false]; assumption)); exact rfl) | (apply W.draw2 (id := 9) [0, 1, 3, 7, 15, 0, 32, 96, 224, 480, 0, 1024, 4095, 8191, 8191, 32767, 65535] [[0], [40], [41], [42], [43], [0], [45], [46], [47], [48], [4], [50], [44, 49, 51], [52], [52]] 15 [(40, 1), (41, 1099511627776), (42, 2199023255552), (43, 4398046511104), (44, 8796093022208), (45, 1), (46, 35184372088832), (47, 70368744177664), (48, 140737488355328), (49, 281474976710656), (50, 16), (51, 1125899906842624), (52, 2832341953150976), (53, 4503599627370496), (54, 4503599627370496)] mixed (by kernel_rfl) rfl rfl) | (apply W.draw2 (id := 11) [0, 1, 3, 7, 15, 0, 32, 96, 224, 480, 0, 1024, 4095, 8191, 8191, 32767, 65535] [[0], [57], [58], [59], [60], [0], [62], [63], [64], [65], [4], [67], [61, 66, 68], [69], [69]] 15 [(57, 1), (58, 144115188075855872), (59, 288230376151711744), (60, 576460752303423488), (61, 1152921504606846976), (62, 1), (63, 4611686018427387904), (64, 9223372036854775808), (65, 18446744073709551616), (66, 36893488147419103232), (67, 16), (68, 147573952589676412928), (69, 371240724483404726272), (70, 590295810358705651712), (71, 590295810358705651712)] mixed (by kernel_rfl) rfl rfl) | (refine W.condA (ht := fun hb => ?_) (hf := fun hb => ?_) <;> (try simp at hb) <;> (try (exfalso; omega))))
    all_goals exact FinP.ret 1000000 rfl hI2 rfl ResM.auto
theorem v_bad1 {a : Rat} {e : Int} (he : e ≠ 0) (hop : op ≠ 0 ∧ op ≠ 1 ∧ op ≠ 2 ∧ op ≠ 3 ∧ op ≠ 12 ∧ op ≠ 15) (hs : ¬ (op = 13 ∧ sgn a.num = 0) ∧ ¬ (op = 14 ∧ sgn a.num ≠ 0)) (hl : l.length = 2) (h0 : Arg lets en l n 0 (zF a) 0) (h1 : Arg lets en l n 1 zF0 e) : VCalls lets en 28 [aOp op k u s l, cI (n : Int)] (.err e) := by
  show PCalls Try.prog 28 4 (fun b => [.one (.ptr (cellsR lets en b)), aOp op k u s l, cI (n : Int)]) (.tup [zF0, cI e]) (InvR lets en)
  refine PCalls.of_M TYok (z := 4) (qs := [zF0, cI e]) [.cell 6 40, .tmp 7] 167 Try.func28 (by kernel_rfl) rfl rfl rfl fun G b rows hI => ?_
  simp only [St.initP, initEnv, Nat.reduceAdd, List.cons_append, List.nil_append]
  repeat' (first | ((first | apply U_ | (apply Ug_; exact rfl; exact rfl) | (apply Ugq_; exact rfl; exact rfl) | apply Lex.u | (apply Lex.g; exact rfl; exact rfl) | (apply Lex.gq; exact rfl; exact rfl)); (first | exact QX.B TYok | exact QX.Nil TYok | exact QX.Idx TYok | exact QX.Ext TYok | exact QX.Build TYok); exact rfl) | refine SX.Alloc TYok (h := ?_) | refine SX.Store TYok (h := ?_) | refine SX.Box TYok (h := ?_) | (apply S_callp (h0) (g := 1000000); exact rfl; exact rfl; exact rfl; exact rfl; (first | assumption | exact ⟨_, rfl, by assumption⟩); exact EvD.auto; intro _ hI2) | (apply S_callp (h1) (g := 1000000); exact rfl; exact rfl; exact rfl; exact rfl; (first | assumption | exact ⟨_, rfl, by assumption⟩); exact EvD.auto; intro _ hI3) | refine SC ?_ | (apply S_isnil TYok; exact rfl; exact rfl; exact rfl; exact Ev.auto; intro bn hnil) | (apply RG.gT; exact rfl; exact rfl; (first | assumption | decide)) | (apply RG.gF; exact rfl; exact rfl; (first | assumption | decide | (rw [ne_eq, Bool.not_eq_true]; assumption) | (rw [ne_eq, Bool.not_eq_false]; assumption)); exact rfl) | (apply W.draw2 (id := 9) [0, 1, 3, 7, 15, 0, 32, 96, 224, 480, 0, 1024, 4095, 8191, 8191, 32767, 65535] [[0], [40], [41], [42], [43], [0], [45], [46], [47], [48], [4], [50], [44, 49, 51], [52], [52]] 15 [(40, 1), (41, 1099511627776), (42, 2199023255552), (43, 4398046511104), (44, 8796093022208), (45, 1), (46, 35184372088832), (47, 70368744177664), (48, 140737488355328), (49, 281474976710656), (50, 16), (51, 1125899906842624), (52, 2832341953150976), (53, 4503599627370496), (54, 4503599627370496)] mixed (by kernel_rfl) rfl rfl) | (apply W.draw2 (id := 11) [0, 1, 3, 7, 15, 0, 32, 96, 224, 480, 0, 1024, 4095, 8191, 8191, 32767, 65535] [[0], [57], [58], [59], [60], [0], [62], [63], [64], [65], [4], [67], [61, 66, 68], [69], [69]] 15 [(57, 1), (58, 144115188075855872), (59, 288230376151711744), (60, 576460752303423488), (61, 1152921504606846976), (62, 1), (63, 4611686018427387904), (64, 9223372036854775808), (65, 18446744073709551616), (66, 36893488147419103232), (67, 16), (68, 147573952589676412928), (69, 371240724483404726272), (70, 590295810358705651712), (71, 590295810358705651712)] mixed (by kernel_rfl) rfl rfl) | (refine W.condA (ht := fun hb => ?_) (hf := fun hb => ?_) <;> (try simp at hb) <;> (try (exfalso; omega))))
  all_goals exact FinP.ret 1000000 rfl hI3 rfl (ResM.cell rfl rfl rfl rfl zeroSubF (ResM.tmp rfl rfl PSub.rfl' ResM.nil))
theorem v_two {a c : Rat} {R : Rs} (hop : op ≠ 0 ∧ op ≠ 1 ∧ op ≠ 2 ∧ op ≠ 3 ∧ op ≠ 12 ∧ op ≠ 15) (hs : ¬ (op = 13 ∧ sgn a.num = 0) ∧ ¬ (op = 14 ∧ sgn a.num ≠ 0)) (hl : l.length = 2) (h0 : Arg lets en l n 0 (zF a) 0) (h1 : Arg lets en l n 1 (zF c) 0) (hbin : ACalls Try.prog 48 [cI op, zF a, zF c] (resP R)) : VCalls lets en 28 [aOp op k u s l, cI (n : Int)] R := by
  obtain ⟨x1, x2, x3, x4, hv⟩ := R.v_agg
  unfold resP at hbin
  show PCalls Try.prog 28 4 (fun b => [.one (.ptr (cellsR lets en b)), aOp op k u s l, cI (n : Int)]) (.tup [R.v, cI R.e]) (InvR lets en)
  rw [hv] at hbin ⊢
  generalize R.e = e at *
  refine PCalls.of_M TYok (z := 4) (qs := [.agg [.int .i64 x1, .sl (x2.map Lf.encI), .int .i64 x3, .sl (x4.map Lf.encI)], cI e]) [.cell 6 40, .tmp 7] 167 Try.func28 (by kernel_rfl) rfl rfl rfl fun G b rows hI => ?_
  simp only [St.initP, initEnv, Nat.reduceAdd, List.cons_append, List.nil_append]
  repeat' (first | ((first | apply U_ | (apply Ug_; exact rfl; exact rfl) | (apply Ugq_; exact rfl; exact rfl) | apply Lex.u | (apply Lex.g; exact rfl; exact rfl) | (apply Lex.gq; exact rfl; exact rfl)); (first | exact QX.B TYok | exact QX.Nil TYok | exact QX.Idx TYok | exact QX.Ext TYok | exact QX.Build TYok | exact QCd (hbin)); exact rfl) | refine SX.Alloc TYok (h := ?_) | refine SX.Store TYok (h := ?_) | refine SX.Box TYok (h := ?_) | (apply S_callp (h0) (g := 1000000); exact rfl; exact rfl; exact rfl; exact rfl; (first | assumption | exact ⟨_, rfl, by assumption⟩); exact EvD.auto; intro _ hI2) | (apply S_callp (h1) (g := 1000000); exact rfl; exact rfl; exact rfl; exact rfl; (first | assumption | exact ⟨_, rfl, by assumption⟩); exact EvD.auto; intro _ hI3) | refine SC ?_ | (apply S_isnil TYok; exact rfl; exact rfl; exact rfl; exact Ev.auto; intro bn hnil) | (apply RG.gT; exact rfl; exact rfl; (first | assumption | decide)) | (apply RG.gF; exact rfl; exact rfl; (first | assumption | decide | (rw [ne_eq, Bool.not_eq_true]; assumption) | (rw [ne_eq, Bool.not_eq_false]; assumption)); exact rfl) | (apply W.draw2 (id := 9) [0, 1, 3, 7, 15, 0, 32, 96, 224, 480, 0, 1024, 4095, 8191, 8191, 32767, 65535] [[0], [40], [41], [42], [43], [0], [45], [46], [47], [48], [4], [50], [44, 49, 51], [52], [52]] 15 [(40, 1), (41, 1099511627776), (42, 2199023255552), (43, 4398046511104), (44, 8796093022208), (45, 1), (46, 35184372088832), (47, 70368744177664), (48, 140737488355328), (49, 281474976710656), (50, 16), (51, 1125899906842624), (52, 2832341953150976), (53, 4503599627370496), (54, 4503599627370496)] mixed (by kernel_rfl) rfl rfl) | (apply W.draw2 (id := 11) [0, 1, 3, 7, 15, 0, 32, 96, 224, 480, 0, 1024, 4095, 8191, 8191, 32767, 65535] [[0], [57], [58], [59], [60], [0], [62], [63], [64], [65], [4], [67], [61, 66, 68], [69], [69]] 15 [(57, 1), (58, 144115188075855872), (59, 288230376151711744), (60, 576460752303423488), (61, 1152921504606846976), (62, 1), (63, 4611686018427387904), (64, 9223372036854775808), (65, 18446744073709551616), (66, 36893488147419103232), (67, 16), (68, 147573952589676412928), (69, 371240724483404726272), (70, 590295810358705651712), (71, 590295810358705651712)] mixed (by kernel_rfl) rfl rfl) | (refine W.condA (ht := fun hb => ?_) (hf := fun hb => ?_) <;> (try simp at hb) <;> (try (exfalso; omega))))
  all_goals exact FinP.ret 1000000 rfl hI3 rfl ResM.auto
theorem value_ok (hL : LetsOk lets) (he : en.Ok) : ∀ (n : Nat), n ≤ lets.length → ∀ (d : Nat) (e : Exp), rightF d e = true → tempF e = false → OkE e → VCalls lets en 28 [aE e, cI (n : Int)] (valF lets en n e) := by
  intro n
  induction n using Nat.strongRecOn with
  | _ n ihn =>
  intro hn d
  induction d with
  | zero => intro e hr; obtain ⟨op, k, u, s, l⟩ := e; rw [rightF] at hr; cases hr
  | succ d ih =>
  intro e hr ht hok
  obtain ⟨op, k, u, s, l⟩ := e
  cases hok with
  | mk hs hl hx =>
  rw [aE_mk, valF, evF_mk]
  have fit : ∀ x, rightF d x = true ∧ tempF x = false → (valF lets en n x).fit := fun x h => evF_fit he (tabF_fit he hL n hn) d x h.1 h.2
  unfold stepF
  rcases stat_cases hr ht with ⟨rfl, rfl, hk⟩ | ⟨rfl, rfl⟩ | ⟨rfl, rfl⟩ | ⟨rfl, rfl⟩ | ⟨h1, h2⟩
  · rw [if_pos rfl]
    refine v_num _ ?_
    split
    · exact Of_ok k 1000 hk (by unfold i64B; omega) (by omega)
    · exact Of_ok k 1 hk (by unfold i64B; omega) (by omega)
  · rw [if_neg (by omega), if_pos rfl]
    refine v_name _ (vname_ok hL he n hn s fun i hi => ?_)
    have hy := hL.2 _ (nth_mem (show i < lets.length by omega))
    have hst := statF_yes hy.1
    exact ihn i hi (by omega) 12 _ hst.1 hst.2 hy.2
  · rw [if_neg (by omega), if_neg (by omega), if_pos rfl]
    exact v_look _ (.inl ⟨rfl, rfl⟩) he
  · rw [if_neg (by omega), if_neg (by omega), if_neg (by omega), if_pos rfl]
    exact v_look _ (.inr ⟨rfl, rfl⟩) he
  · rw [if_neg (by omega), if_neg (by omega), if_neg (by omega), if_neg (by omega)]
    have arg : ∀ j, j < l.length → VCalls lets en 28 [aE (nth l j), cI (n : Int)] (nth (l.map (evF lets en (tabF lets en n))) j) ∧ (nth (l.map (evF lets en (tabF lets en n))) j).fit := fun j hj => by
      rw [nth_map2 hj]
      have hm := nth_mem hj
      exact ⟨ih _ (h2 _ hm).1 (h2 _ hm).2 (hx _ hm), fit _ (h2 _ hm)⟩
    generalize l.map (evF lets en (tabF lets en n)) = A at *
    obtain ⟨g0, f0⟩ := arg 0 (by omega)
    cases h0 : nth A 0 with
    | err e => rw [h0] at g0 f0; exact v_bad f0 (by omega) (by omega) g0
    | ok a =>
      rw [h0] at g0 f0
      dsimp only
      by_cases h12 : op = 12
      · subst h12
        rw [if_pos rfl]
        exact v_not (by omega) g0
      rw [if_neg h12]
      by_cases h15 : op = 15
      · subst h15
        rw [if_pos rfl]
        split
        · rename_i hz
          exact v_if (by omega) g0 (.inl ⟨hz, rfl⟩) (arg 2 (by omega)).1
        · rename_i hz
          exact v_if (by omega) g0 (.inr ⟨hz, rfl⟩) (arg 1 (by omega)).1
      rw [if_neg h15]
      split
      · rename_i hz
        exact v_short (by omega) g0 hz
      · rename_i hz
        obtain ⟨g1, f1⟩ := arg 1 (by omega)
        cases h1' : nth A 1 with
        | err e => rw [h1'] at g1 f1; exact v_bad1 f1 (by omega) (by omega) (by omega) g0 g1
        | ok c => rw [h1'] at g1 f1; exact v_two (by omega) (by omega) (by omega) g0 g1 (binary_ok op f0 f1 (by omega))
end
end Go.Proofs.Ytjedkgogjehigaa
end
section
set_option linter.unusedVariables false
set_option linter.unusedSimpArgs false
set_option maxHeartbeats 8000000
set_option linter.unusedSectionVars false
namespace Go.Proofs.Ytjedkgogjehigaa
open Lf Go
attribute [local irreducible] PureOp EffOp Ev RG W Then InBlock Lf.Fin nth App InitE Pick SubE EvL EvD EvP EvR ResL Lf.Lex SubR SubBR EvC FinO FinM ResM ResD FinS val pw digs trimL
section
abbrev xV (lets : List Let) : PV := .agg [.str [], .str [], .int .i64 0, .int .i64 0, .int .i64 0, .int .i64 0, .int .i64 0, .int .i64 0, .int .i64 0, .int .i64 0, .sl (lets.map encL), .int .i64 0, .int .i64 0, .int .i64 0, .str [], .slnil, .int .i64 0, .slnil, .slnil, .int .i64 0, .slnil, .int .i64 0, .int .i64 0, .int .i64 0, .int .i64 0]
abbrev vV (v : EnvV) : PV := .agg (encEnv v)
def EnvQ.V (en : EnvQ) : EnvV := ⟨en.names, en.vals.map fqOf, en.iss, en.rates.map fqOf⟩
/-- what Value asks for -/
def askF (lets : List Let) (e : Exp) (v : EnvV) : Bool := (statF e && decide (lets.length ≤ 20)) && (!(lets.any fun y => !statF y.body) && validF v)
structure LIn (lets : List Let) : Prop where
  len : lets.length ≤ 9223372036854775807
  ok : ∀ y ∈ lets, OkE y.body
theorem lets_ok {lets : List Let} (h : LIn lets) (h1 : lets.length ≤ 20) (h2 : (lets.any fun y => !statF y.body) = false) : LetsOk lets := by
  refine ⟨h1, fun y hy => ⟨?_, h.ok y hy⟩⟩
  cases hs : statF y.body with
  | true => rfl
  | false =>
    rw [List.any_eq_true.2 ⟨y, hy, by rw [hs]; rfl⟩] at h2
    cases h2
theorem lets_any {lets : List Let} (h : LetsOk lets) : (lets.any fun y => !statF y.body) = false := by
  cases hs : lets.any fun y => !statF y.body with
  | false => rfl
  | true =>
    obtain ⟨y, hy, h2⟩ := List.any_eq_true.1 hs
    rw [(h.2 y hy).1] at h2
    cases h2
theorem env_q {v : EnvV} (hv : v.Len) (h : validF v = true) : ∃ en : EnvQ, en.Ok ∧ v = en.V := by
  unfold validF at h
  simp only [Bool.and_eq_true, decide_eq_true_iff, Bool.not_eq_true'] at h
  obtain ⟨⟨⟨h1, h2⟩, h3⟩, h4⟩ := h
  obtain ⟨V, o1, e1⟩ := rats h3
  obtain ⟨R, o2, e2⟩ := rats h4
  obtain ⟨N, vs, I, rs⟩ := v
  simp only at e1 e2 h1 h2
  subst e1 e2
  exact ⟨⟨N, V, I, R⟩, ⟨o1, o2, by simp at h1; show N.length = V.length; omega, by simp at h2; show I.length = R.length; omega, hv.h1, hv.h3⟩, rfl⟩
variable {lets : List Let} {e : Exp} {v : EnvV}
theorem value_arg (hl : LIn lets) (he : OkE e) (hv : v.Len) (h : askF lets e v = false) : ACalls Try.prog 8 [xV lets, aE e, vV v] (.tup [zF0, cI 1]) := by
  have s1 := stat_ok e he
  have s2 := containsL_ok lets 26 [] (fun y => !statF y.body) hl.len (fun y hy => badL_ok y (hl.ok y hy))
  have s3 := valid_ok v hv
  have hbad : ∀ b : Prop, ((statF e = true ∧ (lets.length : Int) ≤ 20) ∧ (lets.any fun y => !statF y.body) = false) ∧ validF v = true → False := fun _ q => by
    unfold askF at h
    rw [q.1.1.1, decide_eq_true (by omega), q.1.2, q.2] at h
    cases h
  obtain ⟨op, k, u, s, l⟩ := e
  obtain ⟨N, V, I, R⟩ := v
  clear h
  generalize statF (.mk op k u s l) = b1 at *
  generalize (lets.any fun y => !statF y.body) = b2 at *
  generalize validF ⟨N, V, I, R⟩ = b3 at *
  have hbad := hbad True
  refine ACalls.of_M TYok (qs := [zF0, cI 1]) [.cell 6 40, .tmp 7] 63 Try.func8 (by kernel_rfl) rfl rfl rfl fun G => ?_
  refine W.initA (hw := ?_)
  repeat' (first | ((first | apply U_ | (apply Ug_; exact rfl; exact rfl) | (apply Ugq_; exact rfl; exact rfl) | apply Lex.u | (apply Lex.g; exact rfl; exact rfl) | (apply Lex.gq; exact rfl; exact rfl)); (first | exact QX.B TYok | exact QX.Len TYok | exact QX.Ext TYok | exact QX.Build TYok | exact QCd (s1) | exact QCd (s2) | exact QCd (s3)); exact rfl) | refine SX.Alloc TYok (h := ?_) | refine SX.Store TYok (h := ?_) | refine SX.Box TYok (h := ?_) | refine SC ?_ | (apply RG.gT; exact rfl; exact rfl; (first | assumption | decide)) | (apply RG.gF; exact rfl; exact rfl; (first | assumption | decide | (rw [ne_eq, Bool.not_eq_true]; assumption) | (rw [ne_eq, Bool.not_eq_false]; assumption)); exact rfl) | (apply W.draw2 (id := 7) [0, 1, 3, 7, 0, 16, 48, 127, 127, 383, 1023, 2047, 4095, 8191] [[9], [50], [51], [52], [9], [54], [55], [56], [9], [58]] 10 [(50, 512), (51, 1125899906842624), (52, 2251799813685248), (53, 4503599627370496), (54, 512), (55, 18014398509481984), (56, 36028797018963968), (57, 72057594037927936), (58, 512), (59, 288230376151711744)] mixed (by kernel_rfl) rfl rfl) | (refine W.condA (ht := fun hb => ?_) (hf := fun hb => ?_) <;> (try simp at hb) <;> (try (exfalso; first | exact hbad hb | omega))))
  all_goals first
    | exact FinM.ret (ResM.cell rfl rfl rfl rfl zeroSubF (ResM.tmp rfl rfl PSub.rfl' ResM.nil))
    | trace_state
theorem validF_q {en : EnvQ} (he : en.Ok) : validF en.V = true := by
  have any : ∀ {L : List Rat}, (∀ r ∈ L, okF r) → ((L.map fqOf).any fun q => !q.right) = false := fun {L} h => by
    cases hs : (L.map fqOf).any fun q => !q.right with
    | false => rfl
    | true =>
      obtain ⟨q, hq, h2⟩ := List.any_eq_true.1 hs
      obtain ⟨r, hr, rfl⟩ := List.mem_map.1 hq
      have hp := den_pos r
      have hr' := h r hr
      have e : (fqOf r).right = true := by
        unfold Fq.right fqOf rightFB
        have c := sgn_cases r.den
        rw [num_right hr'.1, num_right hr'.2, decide_eq_true (show sgn r.den = 1 by omega), val_mag, val_mag, sgn_mag, show mag r.den = r.den by omega, num_den_gcd]; rfl
      rw [e] at h2
      cases h2
  unfold validF EnvQ.V
  simp only
  rw [any he.v, any he.r, decide_eq_true (by simp [he.l1]), decide_eq_true (by simp [he.l2])]
  rfl
theorem envq_len {en : EnvQ} (he : en.Ok) : en.V.Len := by
  have ok : ∀ {L : List Rat}, (∀ r ∈ L, okF r) → ∀ q ∈ L.map fqOf, FqOk q := fun {L} h q hq => by
    obtain ⟨r, hr, rfl⟩ := List.mem_map.1 hq
    have h1 := num_len (h r hr).1
    have h2 := num_len (h r hr).2
    exact ⟨by show (digs (mag r.num)).length ≤ _; omega, by show (digs (mag r.den)).length ≤ _; omega⟩
  have := he.l1
  have := he.l2
  have := he.b1
  have := he.b2
  exact ⟨he.b1, by show (en.vals.map fqOf).length ≤ _; rw [List.length_map]; omega, he.b2, by show (en.rates.map fqOf).length ≤ _; rw [List.length_map]; omega, ok he.v, ok he.r⟩
theorem vV_q (en : EnvQ) : vV en.V = .agg [.sl (en.names.map encS), .sl (en.vals.map encQ), .sl (en.iss.map encS), .sl (en.rates.map encQ)] := by
  show PV.agg [_, .sl ((en.vals.map fqOf).map encF), _, .sl ((en.rates.map fqOf).map encF)] = _
  rw [slF_of, slF_of]; rfl
theorem invR_nil {lets : List Let} {en : EnvQ} : InvR lets en [] := ⟨[], rfl, fun k v h => by simp [mget] at h⟩
theorem valF_fit {lets : List Let} {en : EnvQ} {e : Exp} (hL : LetsOk lets) (he : en.Ok) (hst : statF e = true) : (valF lets en lets.length e).fit :=
  evF_fit he (tabF_fit he hL lets.length (Nat.le_refl _)) 12 e (statF_yes hst).1 (statF_yes hst).2
attribute [local irreducible] sgn mag gcdZ quoZ remZ fullZ fullE
theorem value_yes {en : EnvQ} (hL : LetsOk lets) (he : en.Ok) (hst : statF e = true) (hoe : OkE e) : ACalls Try.prog 8 [xV lets, aE e, vV en.V] (resP (valF lets en lets.length e)) := by
  have s1 := stat_ok e hoe
  have hlen := hL.1
  have s2 := containsL_ok lets 26 [] (fun y => !statF y.body) (by omega) (fun y hy => badL_ok y (hL.2 y hy).2)
  have s3 := valid_ok en.V (envq_len he)
  have hv := value_ok hL he lets.length (Nat.le_refl _) 12 e (statF_yes hst).1 (statF_yes hst).2 hoe
  have hf := valF_fit hL he hst
  have hI0 := invR_nil (lets := lets) (en := en)
  rw [hst] at s1
  rw [lets_any hL] at s2
  rw [validF_q he] at s3
  rw [vV_q]
  change ACalls Try.prog 27 [vV en.V] _ at s3
  rw [vV_q] at s3
  generalize valF lets en lets.length e = R at *
  obtain ⟨op, k, u, s, l⟩ := e
  rw [aE_mk] at hv s1 ⊢
  cases R with
  | err c =>
    have hc : c ≠ 0 := hf
    replace hv : PCalls Try.prog 28 4 (fun b => [.one (.ptr (cellsR lets en b)), .agg [.int .i64 op, .int .i64 k, .int .i64 u, .str s, .sl (l.map encX)], cI (lets.length : Int)]) (.tup [zF0, cI c]) (InvR lets en) := hv
    show ACalls Try.prog 8 _ (.tup [zF0, cI c])
    refine ACalls.of_M TYok (qs := [zF0, cI c]) [.cell 6 40, .tmp 7] 63 Try.func8 (by kernel_rfl) rfl rfl rfl fun G => ?_
    refine W.initA (hw := ?_)
    repeat' (first | (refine RG.mplace (C := ⟨0, 0, []⟩) (t := 34) (n := 34) rfl ?_; intro bm) | (refine W.weaken (Le.freeze1 (m := 36) rfl) ?_) | ((first | apply U_ | (apply Ug_; exact rfl; exact rfl) | (apply Ugq_; exact rfl; exact rfl) | apply Lex.u | (apply Lex.g; exact rfl; exact rfl) | (apply Lex.gq; exact rfl; exact rfl)); (first | exact QX.B TYok | exact QX.Len TYok | exact QX.Ext TYok | exact QX.Build TYok | exact QCd (s1) | exact QCd (s2) | exact QCd (s3)); exact rfl) | refine SX.Alloc TYok (h := ?_) | refine SX.Store TYok (h := ?_) | refine SX.Box TYok (h := ?_) | (apply S_makeMap TYok 4; exact rfl; exact rfl) | (apply S_callp (hv) (g := 1000000); exact rfl; exact rfl; exact rfl; exact rfl; (first | assumption | exact ⟨_, rfl, by assumption⟩); exact EvD.auto; intro _ hI2) | refine SC ?_ | (apply RG.gT; exact rfl; exact rfl; (first | assumption | decide)) | (apply RG.gF; exact rfl; exact rfl; (first | assumption | decide | (rw [ne_eq, Bool.not_eq_true]; assumption) | (rw [ne_eq, Bool.not_eq_false]; assumption)); exact rfl) | (apply W.draw2 (id := 7) [0, 1, 3, 7, 0, 16, 48, 127, 127, 383, 1023, 2047, 4095, 8191] [[9], [50], [51], [52], [9], [54], [55], [56], [9], [58]] 10 [(50, 512), (51, 1125899906842624), (52, 2251799813685248), (53, 4503599627370496), (54, 512), (55, 18014398509481984), (56, 36028797018963968), (57, 72057594037927936), (58, 512), (59, 288230376151711744)] mixed (by kernel_rfl) rfl rfl) | (refine W.condA (ht := fun hb => ?_) (hf := fun hb => ?_) <;> (try simp at hb) <;> (try (exfalso; omega))))
    all_goals first
      | exact FinM.ret (ResM.cell rfl rfl rfl rfl zeroSubF (ResM.tmp rfl rfl PSub.rfl' ResM.nil))
      | trace_state
  | ok r =>
    have hr : okF r := hf
    have l1 := num_len hr.1
    have l2 := num_len hr.2
    have c1 := (clone_ok (digs (mag r.num)) (by omega)).data rfl
    have c2 := (clone_ok (digs (mag r.den)) (by omega)).data rfl
    replace hv : PCalls Try.prog 28 4 (fun b => [.one (.ptr (cellsR lets en b)), .agg [.int .i64 op, .int .i64 k, .int .i64 u, .str s, .sl (l.map encX)], cI (lets.length : Int)]) (.tup [zF r, cI 0]) (InvR lets en) := hv
    show ACalls Try.prog 8 _ (.tup [zF r, cI 0])
    refine ACalls.of_M TYok (qs := [zF r, cI 0]) [.cell 6 40, .tmp 7] 63 Try.func8 (by kernel_rfl) rfl rfl rfl fun G => ?_
    refine W.initA (hw := ?_)
    repeat' (first | (refine RG.mplace (C := ⟨0, 0, []⟩) (t := 34) (n := 34) rfl ?_; intro bm) | (refine W.weaken (Le.freeze1 (m := 36) rfl) ?_) | ((first | apply U_ | (apply Ug_; exact rfl; exact rfl) | (apply Ugq_; exact rfl; exact rfl) | apply Lex.u | (apply Lex.g; exact rfl; exact rfl) | (apply Lex.gq; exact rfl; exact rfl)); (first | exact QX.B TYok | exact QX.Len TYok | exact QX.Ext TYok | exact QX.Build TYok | exact QCd (s1) | exact QCd (s2) | exact QCd (s3) | exact QCd (c1) | exact QCd (c2)); exact rfl) | refine SX.Alloc TYok (h := ?_) | refine SX.Store TYok (h := ?_) | refine SX.Box TYok (h := ?_) | (apply S_makeMap TYok 4; exact rfl; exact rfl) | (apply S_callp (hv) (g := 1000000); exact rfl; exact rfl; exact rfl; exact rfl; (first | assumption | exact ⟨_, rfl, by assumption⟩); exact EvD.auto; intro _ hI2) | refine SC ?_ | (apply RG.gT; exact rfl; exact rfl; (first | assumption | decide)) | (apply RG.gF; exact rfl; exact rfl; (first | assumption | decide | (rw [ne_eq, Bool.not_eq_true]; assumption) | (rw [ne_eq, Bool.not_eq_false]; assumption)); exact rfl) | (apply W.draw2 (id := 7) [0, 1, 3, 7, 0, 16, 48, 127, 127, 383, 1023, 2047, 4095, 8191] [[9], [50], [51], [52], [9], [54], [55], [56], [9], [58]] 10 [(50, 512), (51, 1125899906842624), (52, 2251799813685248), (53, 4503599627370496), (54, 512), (55, 18014398509481984), (56, 36028797018963968), (57, 72057594037927936), (58, 512), (59, 288230376151711744)] mixed (by kernel_rfl) rfl rfl) | (refine W.condA (ht := fun hb => ?_) (hf := fun hb => ?_) <;> (try simp at hb) <;> (try (exfalso; omega))))
    all_goals first
      | exact FinM.ret ResM.auto
      | trace_state
end
end Go.Proofs.Ytjedkgogjehigaa
end
section
set_option linter.unusedVariables false
set_option linter.unusedSimpArgs false
set_option maxHeartbeats 8000000
set_option linter.unusedSectionVars false
namespace Go.Proofs.Ytjedkgogjehigaa
open Lf Go
attribute [local irreducible] PureOp EffOp Ev RG W Then InBlock Lf.Fin nth App InitE Pick SubE EvL EvD EvP EvR ResL Lf.Lex SubR SubBR EvC FinO FinM ResM ResD FinS val pw digs trimL
section
mutual
def nodesF : Exp → Int → Int
  | .mk _ _ _ _ l, m => nodesG l 1 m
def nodesG : List Exp → Int → Int → Int
  | [], a, _ => a
  | e :: r, a, m => if a ≤ m then nodesG r (a + nodesF e (m - a)) m else a
end
theorem nodesF_bd (e : Exp) : ∀ m, 1 ≤ nodesF e m ∧ nodesF e m ≤ max m 0 + 1 := by
  refine Exp.ind (P := fun e => ∀ m, 1 ≤ nodesF e m ∧ nodesF e m ≤ max m 0 + 1) (fun op n u s l ih m => ?_) e
  rw [nodesF]
  have key : ∀ (l : List Exp), (∀ x ∈ l, ∀ m, 1 ≤ nodesF x m ∧ nodesF x m ≤ max m 0 + 1) → ∀ a, 1 ≤ a → a ≤ max m 0 + 1 → 1 ≤ nodesG l a m ∧ nodesG l a m ≤ max m 0 + 1 := by
    intro l
    induction l with
    | nil => intro _ a h1 h2; rw [nodesG]; exact ⟨h1, h2⟩
    | cons x r ih2 =>
      intro hx a h1 h2
      rw [nodesG]
      split
      · have := hx x (by simp) (m - a)
        exact ih2 (fun y hy => hx y (List.mem_cons_of_mem _ hy)) _ (by omega) (by omega)
      · exact ⟨h1, h2⟩
  exact key l ih 1 (by omega) (by omega)
theorem nodes_ok (e : Exp) : OkE e → ∀ m : Int, 0 ≤ m + 1 → m ≤ 1000 → ACalls Try.prog 32 [aE e, cI m] (.pv (cI (nodesF e m))) := by
  refine Exp.ind (P := fun e => OkE e → ∀ m : Int, 0 ≤ m + 1 → m ≤ 1000 → ACalls Try.prog 32 [aE e, cI m] (.pv (cI (nodesF e m)))) (fun op n u s l ih he m h0 h1 => ?_) e
  cases he with
  | mk hs hl h =>
  rw [aE_mk, nodesF]
  refine ACalls.of_W (qs := [cI (nodesG l 1 m)]) [4] 31 Try.func32 (by kernel_rfl) rfl rfl rfl fun G => ?_
  refine W.initA (hw := ?_)
  repeat' (first | ((first | apply U_ | (apply Ug_; exact rfl; exact rfl) | (apply Ugq_; exact rfl; exact rfl)); (first | exact QX.B TYok | exact QX.Len TYok | exact QX.Idx TYok); exact rfl) | refine SX.Box TYok (h := ?_) | refine SC ?_ | (apply RG.gT; exact rfl; exact rfl; (first | assumption | decide)) | (apply RG.gF; exact rfl; exact rfl; (first | assumption | decide | (rw [ne_eq, Bool.not_eq_true]; assumption) | (rw [ne_eq, Bool.not_eq_false]; assumption)); exact rfl) | (refine W.condA (ht := fun hb => ?_) (hf := fun hb => ?_) <;> (try simp at hb) <;> (try (exfalso; omega))))
  apply W.loopP (σ := Nat × Int) 31 [1, 2] (fun (k, a) => k ≤ l.length ∧ (1 ≤ a ∧ a ≤ max m 0 + 1) ∧ nodesG (l.drop k) a m = nodesG l 1 m) (fun (k, a) => [(5, vI a), (6, vI k)]) (fun _ => [(2, ⟨25, 5, [[.int .i64 op, .int .i64 n, .int .i64 u, .str s, .sl (l.map encX)]]⟩)]) (fun (k, a) => l.length - k) ((0, 1))
  case hp => repeat (first | exact Pick.nil | apply Pick.cons rfl)
  case h0 =>
    refine ⟨⟨by simp, by omega, rfl⟩, ?_⟩
    exact Le.auto
  case round =>
    rintro ⟨k, a⟩ ⟨g1, g2, g3⟩
    apply W.norm (by repeat (first | exact App.nil | apply App.cons))
    by_cases hk : k < l.length
    · rw [drop_nth hk, nodesG] at g3
      by_cases ha : a ≤ m
      · rw [if_pos ha] at g3
        have hi := ih _ (nth_mem hk) (h _ (nth_mem hk)) (m - a) (by omega) (by omega)
        have hb2 := nodesF_bd (nth l k) (m - a)
        generalize nodesF (nth l k) (m - a) = N at *
        repeat' (first | ((first | apply U_ | (apply Ug_; exact rfl; exact rfl) | (apply Ugq_; exact rfl; exact rfl)); (first | exact QX.B TYok | exact QX.Len TYok | exact QX.Idx TYok | exact QCd (hi)); exact rfl) | refine SX.Box TYok (h := ?_) | refine SC ?_ | (apply RG.gT; exact rfl; exact rfl; (first | assumption | decide)) | (apply RG.gF; exact rfl; exact rfl; (first | assumption | decide | (rw [ne_eq, Bool.not_eq_true]; assumption) | (rw [ne_eq, Bool.not_eq_false]; assumption)); exact rfl) | (refine W.condA (ht := fun hb => ?_) (hf := fun hb => ?_) <;> (try simp at hb) <;> (try (exfalso; omega))))
        all_goals first
          | (refine ⟨(k + 1, a + N), ⟨by omega, by omega, g3⟩, ?_, by (first | omega | (simp only; omega))⟩; (try dsimp only); exact Le.auto)
          | (exfalso; omega)
          | trace_state
      · rw [if_neg ha] at g3
        rw [← g3]
        repeat' (first | ((first | apply U_ | (apply Ug_; exact rfl; exact rfl) | (apply Ugq_; exact rfl; exact rfl)); (first | exact QX.B TYok | exact QX.Len TYok | exact QX.Idx TYok); exact rfl) | refine SX.Box TYok (h := ?_) | refine SC ?_ | (apply RG.gT; exact rfl; exact rfl; (first | assumption | decide)) | (apply RG.gF; exact rfl; exact rfl; (first | assumption | decide | (rw [ne_eq, Bool.not_eq_true]; assumption) | (rw [ne_eq, Bool.not_eq_false]; assumption)); exact rfl) | (refine W.condA (ht := fun hb => ?_) (hf := fun hb => ?_) <;> (try simp at hb) <;> (try (exfalso; omega))))
        all_goals exact Fin.ret ResL.auto
    · obtain rfl : k = l.length := by omega
      rw [List.drop_length, nodesG] at g3
      rw [← g3]
      repeat' (first | ((first | apply U_ | (apply Ug_; exact rfl; exact rfl) | (apply Ugq_; exact rfl; exact rfl)); (first | exact QX.B TYok | exact QX.Len TYok | exact QX.Idx TYok); exact rfl) | refine SX.Box TYok (h := ?_) | refine SC ?_ | (apply RG.gT; exact rfl; exact rfl; (first | assumption | decide)) | (apply RG.gF; exact rfl; exact rfl; (first | assumption | decide | (rw [ne_eq, Bool.not_eq_true]; assumption) | (rw [ne_eq, Bool.not_eq_false]; assumption)); exact rfl) | (refine W.condA (ht := fun hb => ?_) (hf := fun hb => ?_) <;> (try simp at hb) <;> (try (exfalso; omega))))
      all_goals exact Fin.ret ResL.auto
mutual
def shortF : Exp → Bool
  | .mk _ _ _ s l => shortFs l && decide ((s.length : Int) ≤ 40)
def shortFs : List Exp → Bool
  | [] => true
  | e :: r => shortF e && shortFs r
end
theorem shortFs_all : ∀ l, shortFs l = l.all shortF
  | [] => rfl
  | e :: r => by rw [shortFs, shortFs_all r]; rfl
theorem all_takeE {l : List Exp} {p : Exp → Bool} {k : Nat} (h : k < l.length) : (l.take (k + 1)).all p = ((l.take k).all p && p (nth l k)) := by
  rw [take_nth h]; simp
theorem shortE_ok (e : Exp) : OkE e → ACalls Try.prog 33 [aE e] (.pv (cB (shortF e))) := by
  refine Exp.ind (P := fun e => OkE e → ACalls Try.prog 33 [aE e] (.pv (cB (shortF e)))) (fun op n u s l ih he => ?_) e
  cases he with
  | mk hs hl h =>
  rw [aE_mk, shortF, shortFs_all]
  refine ACalls.of_W (qs := [cB (l.all shortF && decide ((s.length : Int) ≤ 40))]) [2] 22 Try.func33 (by kernel_rfl) rfl rfl rfl fun G => ?_
  refine W.initA (hw := ?_)
  repeat' (first | ((first | apply U_); (first | exact QX.B TYok | exact QX.Len TYok | exact QX.Idx TYok); exact rfl) | refine SX.Box TYok (h := ?_) | refine SC ?_ | (refine W.condA (ht := fun hb => ?_) (hf := fun hb => ?_) <;> (try simp at hb) <;> (try (exfalso; omega))))
  apply W.loopP (σ := Nat) 22 [1] (fun k => k ≤ l.length ∧ (l.take k).all shortF = true) (fun k => [(3, vI k)]) (fun _ => [(1, ⟨25, 5, [[.int .i64 op, .int .i64 n, .int .i64 u, .str s, .sl (l.map encX)]]⟩)]) (fun k => l.length - k) (0)
  case hp => repeat (first | exact Pick.nil | apply Pick.cons rfl)
  case h0 =>
    refine ⟨by simp, ?_⟩
    exact Le.auto
  case round =>
    rintro k ⟨h1, h2⟩
    apply W.norm (by repeat (first | exact App.nil | apply App.cons))
    by_cases hk : k < l.length
    · have hi := ih _ (nth_mem hk) (h _ (nth_mem hk))
      cases hc : shortF (nth l k) with
      | false =>
        rw [hc] at hi
        have e : l.all shortF = false := by
          rw [← Bool.not_eq_true, List.all_eq_true]; intro hx; rw [hx _ (nth_mem hk)] at hc; cases hc
        rw [e]
        repeat' (first | ((first | apply U_); (first | exact QX.B TYok | exact QX.Len TYok | exact QX.Idx TYok | exact QCd (hi)); exact rfl) | refine SX.Box TYok (h := ?_) | refine SC ?_ | (refine W.condA (ht := fun hb => ?_) (hf := fun hb => ?_) <;> (try simp at hb) <;> (try (exfalso; omega))))
        all_goals exact Fin.ret ResL.auto
      | true =>
        rw [hc] at hi
        repeat' (first | ((first | apply U_); (first | exact QX.B TYok | exact QX.Len TYok | exact QX.Idx TYok | exact QCd (hi)); exact rfl) | refine SX.Box TYok (h := ?_) | refine SC ?_ | (refine W.condA (ht := fun hb => ?_) (hf := fun hb => ?_) <;> (try simp at hb) <;> (try (exfalso; omega))))
        all_goals first
          | (refine ⟨k + 1, ⟨by omega, by rw [all_takeE hk, h2, hc]; rfl⟩, ?_, by (try simp only); omega⟩; exact Le.auto)
          | (exfalso; omega)
          | trace_state
    · obtain rfl : k = l.length := by omega
      rw [List.take_length] at h2
      rw [h2]
      repeat' (first | ((first | apply U_); (first | exact QX.B TYok | exact QX.Len TYok | exact QX.Idx TYok); exact rfl) | refine SX.Box TYok (h := ?_) | refine SC ?_ | (refine W.condA (ht := fun hb => ?_) (hf := fun hb => ?_) <;> (try simp at hb) <;> (try (exfalso; omega))))
      all_goals exact Fin.ret ResL.auto
def fewE (e : Exp) (m : Int) : Bool := decide (nodesF e m ≤ m) && shortF e
theorem fewE_ok (e : Exp) (he : OkE e) (m : Int) (h0 : 0 ≤ m) (h1 : m ≤ 1000) : ACalls Try.prog 13 [aE e, cI m] (.pv (cB (fewE e m))) := by
  have c1 := nodes_ok e he m (by omega) h1
  have c2 := shortE_ok e he
  unfold fewE
  generalize nodesF e m = N at *
  generalize shortF e = b at *
  obtain ⟨op, k, u, s, l⟩ := e
  by_cases hN : N ≤ m
  · rw [decide_eq_true hN]
    refine ACalls.of_W (qs := [cB (true && b)]) [4] 12 Try.func13 (by kernel_rfl) rfl rfl rfl fun G => ?_
    refine W.initA (hw := ?_)
    repeat' (first | ((first | apply U_); (first | exact QX.B TYok | exact QCd (c1) | exact QCd (c2)); exact rfl) | refine SX.Box TYok (h := ?_) | refine SC ?_ | (refine W.condA (ht := fun hb => ?_) (hf := fun hb => ?_) <;> (try simp at hb) <;> (try (exfalso; omega))))
    all_goals exact Fin.ret ResL.auto
  · rw [decide_eq_false hN]
    refine ACalls.of_W (qs := [cB (false && b)]) [4] 12 Try.func13 (by kernel_rfl) rfl rfl rfl fun G => ?_
    refine W.initA (hw := ?_)
    repeat' (first | ((first | apply U_); (first | exact QX.B TYok | exact QCd (c1) | exact QCd (c2)); exact rfl) | refine SX.Box TYok (h := ?_) | refine SC ?_ | (refine W.condA (ht := fun hb => ?_) (hf := fun hb => ?_) <;> (try simp at hb) <;> (try (exfalso; omega))))
    all_goals exact Fin.ret ResL.auto
def fewL1 (y : Let) : Bool := fewE y.body 11 && decide ((y.name.length : Int) ≤ 40)
def fewL (lets : List Let) : Bool := decide ((lets.length : Int) ≤ 3) && lets.all fewL1
theorem all_takeL {α : Type} [Inhabited α] {l : List α} {p : α → Bool} {k : Nat} (h : k < l.length) : (l.take (k + 1)).all p = ((l.take k).all p && p (nth l k)) := by
  rw [take_nth h]; simp
theorem all_no {α : Type} [Inhabited α] {l : List α} {p : α → Bool} {k : Nat} (hk : k < l.length) (h : p (nth l k) = false) : l.all p = false := by
  rw [← Bool.not_eq_true, List.all_eq_true]; intro hx; rw [hx _ (nth_mem hk)] at h; cases h
theorem fewL_ok {lets : List Let} (hl : LIn lets) : ACalls Try.prog 22 [slL lets] (.pv (cB (fewL lets))) := by
  have hlen := hl.len
  unfold fewL
  refine ACalls.of_W (qs := [cB (decide ((lets.length : Int) ≤ 3) && lets.all fewL1)]) [2] 33 Try.func22 (by kernel_rfl) rfl rfl rfl fun G => ?_
  refine W.initA (hw := ?_)
  repeat' (first | ((first | apply U_ | (apply Ug_; exact rfl; exact rfl) | (apply Ugq_; exact rfl; exact rfl)); (first | exact QX.B TYok | exact QX.Len TYok | exact QX.Idx TYok); exact rfl) | refine SC ?_ | (apply RG.gT; exact rfl; exact rfl; (first | assumption | decide)) | (apply RG.gF; exact rfl; exact rfl; (first | assumption | decide | (rw [ne_eq, Bool.not_eq_true]; assumption) | (rw [ne_eq, Bool.not_eq_false]; assumption)); exact rfl) | (refine W.condA (ht := fun hb => ?_) (hf := fun hb => ?_) <;> (try simp at hb) <;> (try (exfalso; omega))))
  apply W.loopP (σ := Nat) 33 [0] (fun k => k ≤ lets.length ∧ k ≤ 4 ∧ (lets.take k).all fewL1 = true) (fun k => [(3, vI k)]) (fun _ => []) (fun k => lets.length - k) (0)
  case hp => repeat (first | exact Pick.nil | apply Pick.cons rfl)
  case h0 =>
    refine ⟨by simp, ?_⟩
    exact Le.auto
  case round =>
    rintro k ⟨h1, h3, h2⟩
    apply W.norm (by repeat (first | exact App.nil | apply App.cons))
    by_cases hk : k < lets.length ∧ k < 4
    · have hi := fewE_ok (nth lets k).body (hl.ok _ (nth_mem hk.1)) 11 (by omega) (by omega)
      have hdef : fewL1 (nth lets k) = (fewE (nth lets k).body 11 && decide (((nth lets k).name.length : Int) ≤ 40)) := rfl
      by_cases hc : fewL1 (nth lets k) = true
      · have hc2 := hc
        rw [hdef, Bool.and_eq_true, decide_eq_true_iff] at hc2
        rw [hc2.1] at hi
        repeat' (first | ((first | apply U_ | (apply Ug_; exact rfl; exact rfl) | (apply Ugq_; exact rfl; exact rfl)); (first | exact QX.B TYok | exact QX.Len TYok | exact QX.Idx TYok | exact QCd (hi)); exact rfl) | refine SC ?_ | (apply RG.gT; exact rfl; exact rfl; (first | assumption | decide)) | (apply RG.gF; exact rfl; exact rfl; (first | assumption | decide | (rw [ne_eq, Bool.not_eq_true]; assumption) | (rw [ne_eq, Bool.not_eq_false]; assumption)); exact rfl) | (refine W.condA (ht := fun hb => ?_) (hf := fun hb => ?_) <;> (try simp at hb) <;> (try (exfalso; omega))))
        all_goals first
          | (refine ⟨k + 1, ⟨by omega, by omega, by rw [all_takeL hk.1, h2, hc]; rfl⟩, ?_, by (try simp only); omega⟩; exact Le.auto)
          | (exfalso; omega)
          | (exfalso; have := hc2.2; simp_all; omega)
          | trace_state
      · rw [Bool.not_eq_true] at hc
        rw [all_no hk.1 hc, Bool.and_false]
        rw [hdef] at hc
        generalize fewE (nth lets k).body 11 = b at *
        have hbad : b = true ∧ ((nth lets k).name.length : Int) ≤ 40 → False := fun q => by
          rw [q.1, decide_eq_true q.2] at hc; cases hc
        repeat' (first | ((first | apply U_ | (apply Ug_; exact rfl; exact rfl) | (apply Ugq_; exact rfl; exact rfl)); (first | exact QX.B TYok | exact QX.Len TYok | exact QX.Idx TYok | exact QCd (hi)); exact rfl) | refine SC ?_ | (apply RG.gT; exact rfl; exact rfl; (first | assumption | decide)) | (apply RG.gF; exact rfl; exact rfl; (first | assumption | decide | (rw [ne_eq, Bool.not_eq_true]; assumption) | (rw [ne_eq, Bool.not_eq_false]; assumption)); exact rfl) | (refine W.condA (ht := fun hb => ?_) (hf := fun hb => ?_) <;> (try simp at hb) <;> (try (exfalso; first | exact hbad hb | omega))))
        all_goals first
          | exact Fin.ret ResL.auto
          | (exfalso; omega)
          | trace_state
    · by_cases h4 : lets.length ≤ 3
      · obtain rfl : k = lets.length := by omega
        rw [List.take_length] at h2
        rw [h2, decide_eq_true (by omega)]
        repeat' (first | ((first | apply U_ | (apply Ug_; exact rfl; exact rfl) | (apply Ugq_; exact rfl; exact rfl)); (first | exact QX.B TYok | exact QX.Len TYok | exact QX.Idx TYok); exact rfl) | refine SC ?_ | (apply RG.gT; exact rfl; exact rfl; (first | assumption | decide)) | (apply RG.gF; exact rfl; exact rfl; (first | assumption | decide | (rw [ne_eq, Bool.not_eq_true]; assumption) | (rw [ne_eq, Bool.not_eq_false]; assumption)); exact rfl) | (refine W.condA (ht := fun hb => ?_) (hf := fun hb => ?_) <;> (try simp at hb) <;> (try (exfalso; omega))))
        all_goals first
          | exact Fin.retB rfl (by simp; omega)
          | (exfalso; omega)
          | trace_state
      · rw [decide_eq_false (by omega), Bool.false_and]
        repeat' (first | ((first | apply U_ | (apply Ug_; exact rfl; exact rfl) | (apply Ugq_; exact rfl; exact rfl)); (first | exact QX.B TYok | exact QX.Len TYok | exact QX.Idx TYok); exact rfl) | refine SC ?_ | (apply RG.gT; exact rfl; exact rfl; (first | assumption | decide)) | (apply RG.gF; exact rfl; exact rfl; (first | assumption | decide | (rw [ne_eq, Bool.not_eq_true]; assumption) | (rw [ne_eq, Bool.not_eq_false]; assumption)); exact rfl) | (refine W.condA (ht := fun hb => ?_) (hf := fun hb => ?_) <;> (try simp at hb) <;> (try (exfalso; omega))))
        all_goals first
          | exact Fin.ret (ResL.cons rfl rfl (PSub.of_eq (by rw [decide_eq_false (by omega)])) ResL.nil)
          | (exfalso; omega)
          | trace_state
end
end Go.Proofs.Ytjedkgogjehigaa
end
section
set_option linter.unusedVariables false
set_option linter.unusedSimpArgs false
set_option maxHeartbeats 8000000
set_option linter.unusedSectionVars false
namespace Go.Proofs.Ytjedkgogjehigaa
open Lf Go
attribute [local irreducible] PureOp EffOp Ev RG W Then InBlock Lf.Fin nth App InitE Pick SubE EvL EvD EvP EvR ResL Lf.Lex SubR SubBR EvC FinO FinM ResM ResD FinS val pw digs trimL
section
def fewQ (q : Fq) : Bool := decide ((q.d.length : Int) ≤ 3) && decide ((q.d'.length : Int) ≤ 3)
def fewS (s : Str) : Bool := decide ((s.length : Int) ≤ 40)
theorem fewQ_ok (q : Fq) : ACalls Try.prog 14 [fqV q, cI 3] (.pv (cB (fewQ q))) := by
  obtain ⟨s, d, s', d'⟩ := q
  unfold fewQ
  refine ACalls.of_W (qs := [cB (decide ((d.length : Int) ≤ 3) && decide ((d'.length : Int) ≤ 3))]) [4] 19 Try.func14 (by kernel_rfl) rfl rfl rfl fun G => ?_
  refine W.initA (hw := ?_)
  repeat' (first | ((first | apply U_ | (apply Ug_; exact rfl; exact rfl) | (apply Ugq_; exact rfl; exact rfl)); (first | exact QX.B TYok | exact QX.Len TYok); exact rfl) | refine SX.Box TYok (h := ?_) | refine SC ?_ | (apply RG.gT; exact rfl; exact rfl; (first | assumption | decide)) | (apply RG.gF; exact rfl; exact rfl; (first | assumption | decide | (rw [ne_eq, Bool.not_eq_true]; assumption) | (rw [ne_eq, Bool.not_eq_false]; assumption)); exact rfl) | (refine W.condA (ht := fun hb => ?_) (hf := fun hb => ?_) <;> (try simp at hb) <;> (try (exfalso; omega))))
  all_goals exact Fin.ret ResL.auto
def lens8 (v : EnvV) : Prop := v.names.length ≤ 8 ∧ v.vals.length ≤ 8 ∧ v.iss.length ≤ 8 ∧ v.rates.length ≤ 8
instance (v : EnvV) : Decidable (lens8 v) := by unfold lens8; infer_instance
def fewV (v : EnvV) : Bool := ((decide (lens8 v) && v.vals.all fewQ) && v.rates.all fewQ) && (v.names ++ v.iss).all fewS
theorem nth_app {α : Type} [Inhabited α] {a b : List α} {k : Nat} (h : k < (a ++ b).length) : nth (a ++ b) k = if k < a.length then nth a k else nth b (k - a.length) := by
  rw [nth, List.getD_eq_getElem?_getD]
  split
  · rename_i h1
    rw [List.getElem?_append_left h1, nth, List.getD_eq_getElem?_getD]
  · rename_i h1
    rw [List.getElem?_append_right (by omega), nth, List.getD_eq_getElem?_getD]
theorem fewV_ok (v : EnvV) (hv : v.Len) : ACalls Try.prog 23 [vV v] (.pv (cB (fewV v))) := by
  have hq := fewQ_ok
  obtain ⟨h1, h2, h3, h4, _, _⟩ := hv
  obtain ⟨N, V, I, R⟩ := v
  simp only at h1 h2 h3 h4
  by_cases h8 : lens8 ⟨N, V, I, R⟩
  case neg =>
    have e : fewV ⟨N, V, I, R⟩ = false := by unfold fewV; rw [decide_eq_false h8]; rfl
    unfold lens8 at h8
    simp only at h8
    rw [e]
    refine ACalls.of_W (qs := [cB false]) [2] 90 Try.func23 (by kernel_rfl) rfl rfl rfl fun G => ?_
    refine W.initA (hw := ?_)
    repeat' (first | ((first | apply U_ | (apply Ug_; exact rfl; exact rfl) | (apply Ugq_; exact rfl; exact rfl)); (first | exact QX.B TYok | exact QX.Len TYok | exact QX.Idx TYok); exact rfl) | refine SX.Box TYok (h := ?_) | refine SC ?_ | (apply RG.gT; exact rfl; exact rfl; (first | assumption | decide)) | (apply RG.gF; exact rfl; exact rfl; (first | assumption | decide | (rw [ne_eq, Bool.not_eq_true]; assumption) | (rw [ne_eq, Bool.not_eq_false]; assumption)); exact rfl) | (refine W.condA (ht := fun hb => ?_) (hf := fun hb => ?_) <;> (try simp at hb) <;> (try (exfalso; omega))))
    all_goals first
      | exact Fin.ret ResL.auto
      | (exfalso; omega)
      | trace_state
  have e0 : fewV ⟨N, V, I, R⟩ = ((V.all fewQ && R.all fewQ) && (N ++ I).all fewS) := by unfold fewV; rw [decide_eq_true h8, Bool.true_and]
  unfold lens8 at h8
  simp only at h8
  rw [e0]
  refine ACalls.of_W (qs := [cB ((V.all fewQ && R.all fewQ) && (N ++ I).all fewS)]) [2] 90 Try.func23 (by kernel_rfl) rfl rfl rfl fun G => ?_
  refine W.initA (hw := ?_)
  repeat' (first | ((first | apply U_ | (apply Ug_; exact rfl; exact rfl) | (apply Ugq_; exact rfl; exact rfl)); (first | exact QX.B TYok | exact QX.Len TYok | exact QX.Idx TYok); exact rfl) | refine SX.Box TYok (h := ?_) | refine SC ?_ | (apply RG.gT; exact rfl; exact rfl; (first | assumption | decide)) | (apply RG.gF; exact rfl; exact rfl; (first | assumption | decide | (rw [ne_eq, Bool.not_eq_true]; assumption) | (rw [ne_eq, Bool.not_eq_false]; assumption)); exact rfl) | (refine W.condA (ht := fun hb => ?_) (hf := fun hb => ?_) <;> (try simp at hb) <;> (try (exfalso; omega))))
  apply W.loopP (σ := Nat) 90 [1] (fun k => k ≤ V.length ∧ (V.take k).all fewQ = true) (fun k => [(3, vI k)]) (fun _ => [(1, ⟨29, 4, [[.sl (N.map encS), .sl (V.map encF), .sl (I.map encS), .sl (R.map encF)]]⟩)]) (fun k => V.length - k) (0)
  case hp => repeat (first | exact Pick.nil | apply Pick.cons rfl)
  case h0 =>
    refine ⟨by simp, ?_⟩
    exact Le.auto
  case round =>
    rintro k ⟨g1, g2⟩
    apply W.norm (by repeat (first | exact App.nil | apply App.cons))
    by_cases hk : k < V.length
    · have hi := hq (nth V k)
      cases hc : fewQ (nth V k) with
      | false =>
        rw [hc] at hi
        rw [all_no hk hc, Bool.false_and, Bool.false_and]
        repeat' (first | ((first | apply U_ | (apply Ug_; exact rfl; exact rfl) | (apply Ugq_; exact rfl; exact rfl)); (first | exact QX.B TYok | exact QX.Len TYok | exact QX.Idx TYok | exact QCd (hi)); exact rfl) | refine SX.Box TYok (h := ?_) | refine SC ?_ | (apply RG.gT; exact rfl; exact rfl; (first | assumption | decide)) | (apply RG.gF; exact rfl; exact rfl; (first | assumption | decide | (rw [ne_eq, Bool.not_eq_true]; assumption) | (rw [ne_eq, Bool.not_eq_false]; assumption)); exact rfl) | (refine W.condA (ht := fun hb => ?_) (hf := fun hb => ?_) <;> (try simp at hb) <;> (try (exfalso; omega))))
        all_goals first
          | exact Fin.ret ResL.auto
          | (exfalso; omega)
          | trace_state
      | true =>
        rw [hc] at hi
        repeat' (first | ((first | apply U_ | (apply Ug_; exact rfl; exact rfl) | (apply Ugq_; exact rfl; exact rfl)); (first | exact QX.B TYok | exact QX.Len TYok | exact QX.Idx TYok | exact QCd (hi)); exact rfl) | refine SX.Box TYok (h := ?_) | refine SC ?_ | (apply RG.gT; exact rfl; exact rfl; (first | assumption | decide)) | (apply RG.gF; exact rfl; exact rfl; (first | assumption | decide | (rw [ne_eq, Bool.not_eq_true]; assumption) | (rw [ne_eq, Bool.not_eq_false]; assumption)); exact rfl) | (refine W.condA (ht := fun hb => ?_) (hf := fun hb => ?_) <;> (try simp at hb) <;> (try (exfalso; omega))))
        all_goals first
          | (refine ⟨k + 1, ⟨by omega, by rw [all_takeL hk, g2, hc]; rfl⟩, ?_, by (try simp only); omega⟩; exact Le.auto)
          | (exfalso; omega)
          | trace_state
    obtain rfl : k = V.length := by omega
    rw [List.take_length] at g2
    rw [g2, Bool.true_and]
    repeat' (first | ((first | apply U_ | (apply Ug_; exact rfl; exact rfl) | (apply Ugq_; exact rfl; exact rfl)); (first | exact QX.B TYok | exact QX.Len TYok | exact QX.Idx TYok); exact rfl) | refine SX.Box TYok (h := ?_) | refine SC ?_ | (apply RG.gT; exact rfl; exact rfl; (first | assumption | decide)) | (apply RG.gF; exact rfl; exact rfl; (first | assumption | decide | (rw [ne_eq, Bool.not_eq_true]; assumption) | (rw [ne_eq, Bool.not_eq_false]; assumption)); exact rfl) | (refine W.condA (ht := fun hb => ?_) (hf := fun hb => ?_) <;> (try simp at hb) <;> (try (exfalso; omega))))
    apply W.loopP (σ := Nat) 90 [1] (fun k => k ≤ R.length ∧ (R.take k).all fewQ = true) (fun k => [(4, vI k)]) (fun _ => [(1, ⟨29, 4, [[.sl (N.map encS), .sl (V.map encF), .sl (I.map encS), .sl (R.map encF)]]⟩)]) (fun k => R.length - k) (0)
    case hp => repeat (first | exact Pick.nil | apply Pick.cons rfl)
    case h0 =>
      refine ⟨by simp, ?_⟩
      exact Le.auto
    case round =>
      rintro k ⟨r1, r2⟩
      apply W.norm (by repeat (first | exact App.nil | apply App.cons))
      by_cases hk : k < R.length
      · have hi := hq (nth R k)
        cases hc : fewQ (nth R k) with
        | false =>
          rw [hc] at hi
          rw [all_no hk hc, Bool.false_and]
          repeat' (first | ((first | apply U_ | (apply Ug_; exact rfl; exact rfl) | (apply Ugq_; exact rfl; exact rfl)); (first | exact QX.B TYok | exact QX.Len TYok | exact QX.Idx TYok | exact QCd (hi)); exact rfl) | refine SX.Box TYok (h := ?_) | refine SC ?_ | (apply RG.gT; exact rfl; exact rfl; (first | assumption | decide)) | (apply RG.gF; exact rfl; exact rfl; (first | assumption | decide | (rw [ne_eq, Bool.not_eq_true]; assumption) | (rw [ne_eq, Bool.not_eq_false]; assumption)); exact rfl) | (refine W.condA (ht := fun hb => ?_) (hf := fun hb => ?_) <;> (try simp at hb) <;> (try (exfalso; omega))))
          all_goals first
            | exact Fin.ret ResL.auto
            | (exfalso; omega)
            | trace_state
        | true =>
          rw [hc] at hi
          repeat' (first | ((first | apply U_ | (apply Ug_; exact rfl; exact rfl) | (apply Ugq_; exact rfl; exact rfl)); (first | exact QX.B TYok | exact QX.Len TYok | exact QX.Idx TYok | exact QCd (hi)); exact rfl) | refine SX.Box TYok (h := ?_) | refine SC ?_ | (apply RG.gT; exact rfl; exact rfl; (first | assumption | decide)) | (apply RG.gF; exact rfl; exact rfl; (first | assumption | decide | (rw [ne_eq, Bool.not_eq_true]; assumption) | (rw [ne_eq, Bool.not_eq_false]; assumption)); exact rfl) | (refine W.condA (ht := fun hb => ?_) (hf := fun hb => ?_) <;> (try simp at hb) <;> (try (exfalso; omega))))
          all_goals first
            | (refine ⟨k + 1, ⟨by omega, by rw [all_takeL hk, r2, hc]; rfl⟩, ?_, by (try simp only); omega⟩; exact Le.auto)
            | (exfalso; omega)
            | trace_state
      obtain rfl : k = R.length := by omega
      rw [List.take_length] at r2
      rw [r2, Bool.true_and]
      repeat' (first | ((first | apply U_ | (apply Ug_; exact rfl; exact rfl) | (apply Ugq_; exact rfl; exact rfl)); (first | exact QX.B TYok | exact QX.Len TYok | exact QX.Idx TYok); exact rfl) | refine SX.Box TYok (h := ?_) | refine SC ?_ | (apply RG.gT; exact rfl; exact rfl; (first | assumption | decide)) | (apply RG.gF; exact rfl; exact rfl; (first | assumption | decide | (rw [ne_eq, Bool.not_eq_true]; assumption) | (rw [ne_eq, Bool.not_eq_false]; assumption)); exact rfl) | (refine W.condA (ht := fun hb => ?_) (hf := fun hb => ?_) <;> (try simp at hb) <;> (try (exfalso; omega))))
      apply W.loopP (σ := Nat) 90 [1] (fun k => k ≤ (N ++ I).length ∧ ((N ++ I).take k).all fewS = true) (fun k => [(5, vI k)]) (fun _ => [(1, ⟨29, 4, [[.sl (N.map encS), .sl (V.map encF), .sl (I.map encS), .sl (R.map encF)]]⟩)]) (fun k => (N ++ I).length - k) (0)
      case hp => repeat (first | exact Pick.nil | apply Pick.cons rfl)
      case h0 =>
        refine ⟨by simp, ?_⟩
        exact Le.auto
      case round =>
        rintro k ⟨t1, t2⟩
        apply W.norm (by repeat (first | exact App.nil | apply App.cons))
        have hlen : (N ++ I).length = N.length + I.length := List.length_append
        by_cases hk : k < (N ++ I).length
        · have hn := nth_app (a := N) (b := I) hk
          have hidx : ((k : Int) - (N.length : Int)).toNat = k - N.length := by omega
          cases hc : fewS (nth (N ++ I) k) with
          | false =>
            rw [all_no hk hc]
            by_cases hkn : k < N.length
            · rw [if_pos hkn] at hn
              rw [hn] at hc
              have hc' := of_decide_eq_false hc
              repeat' (first | ((first | apply U_ | (apply Ug_; exact rfl; exact rfl) | (apply Ugq_; exact rfl; exact rfl)); (first | exact QX.B TYok | exact QX.Len TYok | exact QX.Idx TYok); exact rfl) | refine SX.Box TYok (h := ?_) | refine SC ?_ | (apply RG.gT; exact rfl; exact rfl; (first | assumption | decide)) | (apply RG.gF; exact rfl; exact rfl; (first | assumption | decide | (rw [ne_eq, Bool.not_eq_true]; assumption) | (rw [ne_eq, Bool.not_eq_false]; assumption)); exact rfl) | (refine W.condA (ht := fun hb => ?_) (hf := fun hb => ?_) <;> (try simp at hb) <;> (try (exfalso; omega))))
              all_goals first
                | exact Fin.ret ResL.auto
                | (exfalso; omega)
                | trace_state
            · rw [if_neg hkn] at hn
              rw [hn] at hc
              have hc' := of_decide_eq_false hc
              have hki : k - N.length < I.length := by omega
              repeat' (first | ((first | apply U_ | (apply Ug_; exact rfl; exact rfl) | (apply Ugq_; exact rfl; exact rfl)); (first | exact QX.B TYok | exact QX.Len TYok | exact QX.Idx TYok); exact rfl) | refine SX.Box TYok (h := ?_) | refine SC ?_ | (apply RG.gT; exact rfl; exact rfl; (first | assumption | decide)) | (apply RG.gF; exact rfl; exact rfl; (first | assumption | decide | (rw [ne_eq, Bool.not_eq_true]; assumption) | (rw [ne_eq, Bool.not_eq_false]; assumption)); exact rfl) | (refine W.condA (ht := fun hb => ?_) (hf := fun hb => ?_) <;> (try simp at hb) <;> (try (exfalso; omega))))
              all_goals first
                | exact Fin.ret ResL.auto
                | (exfalso; omega)
                | trace_state
          | true =>
            have ht : ((N ++ I).take (k + 1)).all fewS = true := by rw [all_takeL hk, t2, hc]; rfl
            by_cases hkn : k < N.length
            · rw [if_pos hkn] at hn
              rw [hn] at hc
              have hc' := of_decide_eq_true hc
              repeat' (first | ((first | apply U_ | (apply Ug_; exact rfl; exact rfl) | (apply Ugq_; exact rfl; exact rfl)); (first | exact QX.B TYok | exact QX.Len TYok | exact QX.Idx TYok); exact rfl) | refine SX.Box TYok (h := ?_) | refine SC ?_ | (apply RG.gT; exact rfl; exact rfl; (first | assumption | decide)) | (apply RG.gF; exact rfl; exact rfl; (first | assumption | decide | (rw [ne_eq, Bool.not_eq_true]; assumption) | (rw [ne_eq, Bool.not_eq_false]; assumption)); exact rfl) | (refine W.condA (ht := fun hb => ?_) (hf := fun hb => ?_) <;> (try simp at hb) <;> (try (exfalso; omega))))
              all_goals first
                | (refine ⟨k + 1, ⟨by omega, ht⟩, ?_, by (try simp only); omega⟩; exact Le.auto)
                | (exfalso; omega)
                | trace_state
            · rw [if_neg hkn] at hn
              rw [hn] at hc
              have hc' := of_decide_eq_true hc
              have hki : k - N.length < I.length := by omega
              repeat' (first | ((first | apply U_ | (apply Ug_; exact rfl; exact rfl) | (apply Ugq_; exact rfl; exact rfl)); (first | exact QX.B TYok | exact QX.Len TYok | exact QX.Idx TYok); exact rfl) | refine SX.Box TYok (h := ?_) | refine SC ?_ | (apply RG.gT; exact rfl; exact rfl; (first | assumption | decide)) | (apply RG.gF; exact rfl; exact rfl; (first | assumption | decide | (rw [ne_eq, Bool.not_eq_true]; assumption) | (rw [ne_eq, Bool.not_eq_false]; assumption)); exact rfl) | (refine W.condA (ht := fun hb => ?_) (hf := fun hb => ?_) <;> (try simp at hb) <;> (try (exfalso; omega))))
              all_goals first
                | (refine ⟨k + 1, ⟨by omega, ht⟩, ?_, by (try simp only); omega⟩; exact Le.auto)
                | (exfalso; omega)
                | trace_state
        obtain rfl : k = (N ++ I).length := by omega
        rw [List.take_length] at t2
        rw [t2]
        repeat' (first | ((first | apply U_ | (apply Ug_; exact rfl; exact rfl) | (apply Ugq_; exact rfl; exact rfl)); (first | exact QX.B TYok | exact QX.Len TYok | exact QX.Idx TYok); exact rfl) | refine SX.Box TYok (h := ?_) | refine SC ?_ | (apply RG.gT; exact rfl; exact rfl; (first | assumption | decide)) | (apply RG.gF; exact rfl; exact rfl; (first | assumption | decide | (rw [ne_eq, Bool.not_eq_true]; assumption) | (rw [ne_eq, Bool.not_eq_false]; assumption)); exact rfl) | (refine W.condA (ht := fun hb => ?_) (hf := fun hb => ?_) <;> (try simp at hb) <;> (try (exfalso; omega))))
        all_goals first
          | exact Fin.ret ResL.auto
          | (exfalso; omega)
          | trace_state
end
end Go.Proofs.Ytjedkgogjehigaa
end
