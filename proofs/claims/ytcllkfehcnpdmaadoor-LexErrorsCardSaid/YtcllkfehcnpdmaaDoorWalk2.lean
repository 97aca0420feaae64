/-
  The functions of lex and of its reference that read numbers, signs and prefixes, and strings.Join, out of the kit's own contract.
-/
import Derived.Test.YtcllkfehcnpdmaaDoorWalk
import Derived.Test.YtcllkfehcnpdmaaDoorNums
import Derived.Test.YtcllkfehcnpdmaaDoorShelf
set_option linter.unusedVariables false
set_option linter.unusedSimpArgs false
set_option maxHeartbeats 8000000
namespace Go.Proofs.YtcllkfehcnpdmaaDoor
open Lf Go LexSpec Go.RowKit
attribute [local irreducible] PureOp EffOp Ev RG W Then InBlock Lf.Fin nth App InitE Pick SubE SubF SubG EvL EvD EvP EvR ResL Lf.Lex SubR SubBR RA RAll EvC FinO FinM ResM

/-! ### strings.Join -/
abbrev slS (l : List Str) : PV := .one (.sl (l.map fun s => [.str s]))
theorem rel_str {Φ : Frz} {v : Value} {s : Str} (h : Rel Φ v (.str s)) : v = .string ⟨s.toArray⟩ := by
  cases h; simp
theorem join_ok (l : List Str) (sep : Str) (hn : l.length ≤ 140737488355328) (hj : (Lib.join l sep).length ≤ 140737488355328) : ACalls Tryd.prog 31 [slS l, cS sep] (.pv (cS (Lib.join l sep))) where
  fn := ⟨_, Tryd.func31, by kernel_rfl, rfl⟩
  calls := fun Φ w vs hfit harg => by
    obtain ⟨hsz, hv⟩ := harg
    obtain ⟨v0, h0, r0⟩ := hv 0 _ rfl
    obtain ⟨v1, h1, r1⟩ := hv 1 _ rfl
    have hvs : vs = #[v0, v1] := by
      apply Array.ext
      · exact hsz
      · intro i h2 h3
        have h4 : i = 0 ∨ i = 1 := by simp at h3; omega
        rcases h4 with rfl | rfl
        · have := h0; rw [Array.getElem?_eq_getElem h2] at this; simpa using this
        · have := h1; rw [Array.getElem?_eq_getElem h2] at this; simpa using this
    subst hvs
    have e1 : v1 = .string ⟨sep.toArray⟩ := rel_str r1
    subst e1
    have fin : ∀ e w', (e = Ending.returned (.string ⟨(Lib.join l sep).toArray⟩) ∧ Below w.heap.size w w') → ∃ v Φ', e = .returned v ∧ AVRel Φ' (fun _ => none) [] v (.pv (cS (Lib.join l sep))) ∧ Φ.le Φ' ∧ (∀ b, b < w.heap.size → Φ' b = Φ b) ∧ Fits Φ' w' ∧ Below w.heap.size w w' := by
      rintro e w' ⟨rfl, hb⟩
      refine ⟨_, Φ, rfl, ?_, Φ.le_refl, fun _ _ => rfl, fun b c h => ?_, hb⟩
      · exact Rel.str _
      · obtain ⟨E, fz, hw⟩ := hfit b c h
        exact ⟨E, fz, by rw [hb.block b (Array.getElem?_eq_some_iff.1 hw).1]; exact hw⟩
    have none : ∀ (a : Option Addr) (c : Nat), l = [] → Calls Tryd.prog 31 #[.slice a 0 c, .string ⟨sep.toArray⟩] w fun e w' => ∃ v Φ', e = .returned v ∧ AVRel Φ' (fun _ => none) [] v (.pv (cS (Lib.join l sep))) ∧ Φ.le Φ' ∧ (∀ b, b < w.heap.size → Φ' b = Φ b) ∧ Fits Φ' w' ∧ Below w.heap.size w w' := fun a c hl => by
      subst hl
      refine (Tryd.strings_Join_none a c ⟨sep.toArray⟩ w).mono fun e w' ⟨he, hw⟩ => fin e w' ⟨he, hw ▸ Below.refl _ _⟩
    have r0' : Rel Φ v0 (.sl (l.map fun s => [Cell.str s])) := r0
    generalize hr : (l.map fun s => [Cell.str s]) = rows at r0'
    cases r0' with
    | sl0 => exact none _ _ (List.map_eq_nil_iff.1 hr)
    | slE a cap => exact none _ _ (List.map_eq_nil_iff.1 hr)
    | sl b off len cap sz rows f hlen hcap hsz2 hc hrel =>
      by_cases hl : l = []
      · subst hl; subst hr; simp at hlen; subst hlen; exact none _ _ rfl
      have hlr : l.length = len := by rw [← hlen, ← hr]; simp
      have hrow : ∀ (j : Nat) (s : Str), l[j]? = some s → rows[j]? = some [Cell.str s] := fun j s h => by rw [← hr]; simp [h]
      have hs1 : sz = 1 := by
        cases l with
        | nil => exact absurd rfl hl
        | cons s l => exact (hsz2 [Cell.str s] (by rw [← hr]; simp)).symm
      subst hs1
      have hcell : ∀ (j : Nat) (s : Str), l[j]? = some s → (Φ b).bind (·[off + j]?) = some (.string ⟨s.toArray⟩) := fun j s h => by
        have q1 := hc j 0 _ _ (hrow j s h) rfl
        have q2 := rel_str (hrel j 0 _ _ (hrow j s h) rfl)
        rw [q2] at q1
        simpa using q1
      have hbk : b < w.heap.size := by
        cases l with
        | nil => exact absurd rfl hl
        | cons s l =>
          have := hcell 0 s rfl
          cases hb : Φ b with
          | none => rw [hb] at this; simp at this
          | some cs => obtain ⟨E, fz, hw⟩ := hfit b cs hb; exact (Array.getElem?_eq_some_iff.1 hw).1
      have key := Tryd.strings_Join b off cap (l.map fun s => (⟨s.toArray⟩ : ByteArray)) ⟨sep.toArray⟩ w (fun j x hx => by
        simp only [List.getElem?_map, Option.map_eq_some_iff] at hx
        obtain ⟨s, q1, rfl⟩ := hx
        exact fits_cell hfit (hcell j s q1)) hbk (by simpa using hn) (by simp; omega) (by simpa [Function.comp_def] using hj)
      have e2 : (l.map fun s => (⟨s.toArray⟩ : ByteArray)).length = len := by simpa using hlr
      rw [e2] at key
      have e3 : (l.map fun s => (⟨s.toArray⟩ : ByteArray)).map (fun x => x.data.toList) = l := by simp [Function.comp_def]
      refine key.mono fun e w' ⟨he, hb⟩ => fin e w' ⟨?_, hb⟩
      rw [he, e3]

/-! ### prefixes -/
theorem prefix_eq (s x : Str) : x.isPrefixOf s = (decide ((s.length : Int) ≥ x.length) && decide (s.take x.length = x)) := by
  rw [Bool.eq_iff_iff]
  simp only [List.isPrefixOf_iff_prefix, Bool.and_eq_true, decide_eq_true_eq]
  constructor
  · intro h; exact ⟨by have := h.length_le; omega, (List.prefix_iff_eq_take.1 h).symm⟩
  · rintro ⟨_, h⟩; exact List.prefix_iff_eq_take.2 h.symm
theorem hasPrefix0_ok (s x : Str) : ACalls Tryd.prog 38 [cS s, cS x] (.pv (cB (x.isPrefixOf s))) := by
  refine ACalls.of_W (qs := [cB (x.isPrefixOf s)]) [4] 18 Tryd.func38 (by kernel_rfl) rfl rfl rfl fun G => ?_
  apply W.init (by repeat (first | exact InitE.nil | apply InitE.c0 | apply InitE.c1 | apply InitE.c2 | apply InitE.c3 | apply InitE.c4 | apply InitE.c5 | apply InitE.c6 | apply InitE.c7 | apply InitE.c8 | apply InitE.c9 | apply InitE.c10 | apply InitE.c11))
  repeat' (first
    | apply RG.nil
    | apply Lex.nil
    | apply Then.n
    | apply Then.r
    | apply Then.x
    | apply InBlock.n
    | apply InBlock.r
    | apply InBlock.hit
    | (apply InBlock.miss; exact rfl)
    | apply W.seq
    | apply W.region
    | apply W.block
    | apply W.skip
    | apply W.ret
    | apply W.exit
    | ((first | apply U_ | (apply Ug_; exact rfl; exact rfl) | (apply Ugq_; exact rfl; exact rfl)); (first
    | (apply Q_move; (refine Ev.of rfl ?_; first | exact fun _ => ⟨⟩ | exact id | exact And.right | exact And.left | exact (·.1.2) | exact (·.1.1) | exact (·.1.1.1) | exact (·.1.1.2)))
    | (apply Q_assign; (refine Ev.of rfl ?_; first | exact fun _ => ⟨⟩ | exact id | exact And.right | exact And.left | exact (·.1.2) | exact (·.1.1) | exact (·.1.1.1) | exact (·.1.1.2)))
    | (apply Q_bin; (refine Ev.of rfl ?_; first | exact fun _ => ⟨⟩ | exact id | exact And.right | exact And.left | exact (·.1.2) | exact (·.1.1) | exact (·.1.1.1) | exact (·.1.1.2)); (refine Ev.of rfl ?_; first | exact fun _ => ⟨⟩ | exact id | exact And.right | exact And.left | exact (·.1.2) | exact (·.1.1) | exact (·.1.1.1) | exact (·.1.1.2)); exact rfl)
    | (apply Q_or; (refine Ev.of rfl ?_; first | exact fun _ => ⟨⟩ | exact id | exact And.right | exact And.left | exact (·.1.2) | exact (·.1.1) | exact (·.1.1.1) | exact (·.1.1.2)); (refine Ev.of rfl ?_; first | exact fun _ => ⟨⟩ | exact id | exact And.right | exact And.left | exact (·.1.2) | exact (·.1.1) | exact (·.1.1.1) | exact (·.1.1.2)))
    | (apply Q_and; (refine Ev.of rfl ?_; first | exact fun _ => ⟨⟩ | exact id | exact And.right | exact And.left | exact (·.1.2) | exact (·.1.1) | exact (·.1.1.1) | exact (·.1.1.2)); (refine Ev.of rfl ?_; first | exact fun _ => ⟨⟩ | exact id | exact And.right | exact And.left | exact (·.1.2) | exact (·.1.1) | exact (·.1.1.1) | exact (·.1.1.2)))
    | (apply Q_lenm TYok; (refine Ev.of rfl ?_; first | exact fun _ => ⟨⟩ | exact id | exact And.right | exact And.left | exact (·.1.2) | exact (·.1.1) | exact (·.1.1.1) | exact (·.1.1.2)); exact rfl; exact rfl)
    | (apply Q_lend TYok; (refine Ev.of rfl ?_; first | exact fun _ => ⟨⟩ | exact id | exact And.right | exact And.left | exact (·.1.2) | exact (·.1.1) | exact (·.1.1.1) | exact (·.1.1.2)); exact rfl; exact rfl)
    | (apply Q_lenom TYok; (refine Ev.of rfl ?_; first | exact fun _ => ⟨⟩ | exact id | exact And.right | exact And.left | exact (·.1.2) | exact (·.1.1) | exact (·.1.1.1) | exact (·.1.1.2)); exact rfl; exact rfl; exact rfl)
    | (apply Q_len TYok; (refine Ev.of rfl ?_; first | exact fun _ => ⟨⟩ | exact id | exact And.right | exact And.left | exact (·.1.2) | exact (·.1.1) | exact (·.1.1.1) | exact (·.1.1.2)); exact rfl; exact rfl; exact rfl)
    | (apply Q_len0 TYok; (refine Ev.of rfl ?_; first | exact fun _ => ⟨⟩ | exact id | exact And.right | exact And.left | exact (·.1.2) | exact (·.1.1) | exact (·.1.1.1) | exact (·.1.1.2)); exact rfl; exact rfl)
    | (apply Q_lens TYok; (refine Ev.of rfl ?_; first | exact fun _ => ⟨⟩ | exact id | exact And.right | exact And.left | exact (·.1.2) | exact (·.1.1) | exact (·.1.1.1) | exact (·.1.1.2)); exact rfl; exact rfl)
    | (apply Q_binS; (refine Ev.of rfl ?_; first | exact fun _ => ⟨⟩ | exact id | exact And.right | exact And.left | exact (·.1.2) | exact (·.1.1) | exact (·.1.1.1) | exact (·.1.1.2)); (refine Ev.of rfl ?_; first | exact fun _ => ⟨⟩ | exact id | exact And.right | exact And.left | exact (·.1.2) | exact (·.1.1) | exact (·.1.1.1) | exact (·.1.1.2)); exact rfl)
    | (apply Q_binB TYok; (refine Ev.of rfl ?_; first | exact fun _ => ⟨⟩ | exact id | exact And.right | exact And.left | exact (·.1.2) | exact (·.1.1) | exact (·.1.1.1) | exact (·.1.1.2)); (refine Ev.of rfl ?_; first | exact fun _ => ⟨⟩ | exact id | exact And.right | exact And.left | exact (·.1.2) | exact (·.1.1) | exact (·.1.1.1) | exact (·.1.1.2)); exact rfl; exact rfl; exact rfl)
    | (apply Q_sub2 TYok; (refine Ev.of rfl ?_; first | exact fun _ => ⟨⟩ | exact id | exact And.right | exact And.left | exact (·.1.2) | exact (·.1.1) | exact (·.1.1.1) | exact (·.1.1.2)); (refine Ev.of rfl ?_; first | exact fun _ => ⟨⟩ | exact id | exact And.right | exact And.left | exact (·.1.2) | exact (·.1.1) | exact (·.1.1.1) | exact (·.1.1.2)); (refine Ev.of rfl ?_; first | exact fun _ => ⟨⟩ | exact id | exact And.right | exact And.left | exact (·.1.2) | exact (·.1.1) | exact (·.1.1.1) | exact (·.1.1.2)); exact rfl; exact rfl; (intro hg; first | omega | (simp; omega) | (simp at hg ⊢; omega)))
    | (apply Q_sub1 TYok; (refine Ev.of rfl ?_; first | exact fun _ => ⟨⟩ | exact id | exact And.right | exact And.left | exact (·.1.2) | exact (·.1.1) | exact (·.1.1.1) | exact (·.1.1.2)); (refine Ev.of rfl ?_; first | exact fun _ => ⟨⟩ | exact id | exact And.right | exact And.left | exact (·.1.2) | exact (·.1.1) | exact (·.1.1.1) | exact (·.1.1.2)); exact rfl; exact rfl; (intro hg; first | omega | (simp; omega) | (simp at hg ⊢; omega)))
    | (apply Q_sub0 TYok; (refine Ev.of rfl ?_; first | exact fun _ => ⟨⟩ | exact id | exact And.right | exact And.left | exact (·.1.2) | exact (·.1.1) | exact (·.1.1.1) | exact (·.1.1.2)); (refine Ev.of rfl ?_; first | exact fun _ => ⟨⟩ | exact id | exact And.right | exact And.left | exact (·.1.2) | exact (·.1.1) | exact (·.1.1.1) | exact (·.1.1.2)); exact rfl; exact rfl; (intro hg; first | omega | (simp; omega) | (simp at hg ⊢; omega)))); exact rfl)
    | (apply S_isnil TYok; exact rfl; exact rfl; exact rfl; (refine Ev.of rfl ?_; first | exact fun _ => ⟨⟩ | exact id | exact And.right | exact And.left | exact (·.1.2) | exact (·.1.1) | exact (·.1.1.1) | exact (·.1.1.2)); intro bn hnil)
    | (apply RG.gT; exact rfl; exact rfl; (first | assumption | decide))
    | (apply RG.gF; exact rfl; exact rfl; (first | assumption | decide); exact rfl)
    | (refine W.cond (by refine Ev.of rfl ?_; first | exact fun _ => ⟨⟩ | exact id | exact And.right | exact And.left | exact (·.1.2) | exact (·.1.1) | exact (·.1.1.1) | exact (·.1.1.2)) (fun hb => ?_) (fun hb => ?_) <;> (try simp at hb) <;> (try (exfalso; omega))))
  rw [prefix_eq]
  exact Fin.ret (by repeat (first | exact ResL.nil | refine ResL.cons rfl rfl (by first | exact PSub.rfl' | exact PSub.nil' | (refine PSub.of_eq ?_; simp; done) | (refine PSub.of_eq ?_; simp only [List.map_append, List.map_cons, List.map_nil]; rfl) | (refine PSub.of_eq ?_; simp; rfl)) ?_))
theorem hasPrefix_ok (s x : Str) : ACalls Tryd.prog 33 [cS s, cS x] (.pv (cB (x.isPrefixOf s))) := by
  refine ACalls.of_W (qs := [_]) [4] 8 Tryd.func33 (by kernel_rfl) rfl rfl rfl fun G => ?_
  apply W.init (by repeat (first | exact InitE.nil | apply InitE.c0 | apply InitE.c1 | apply InitE.c2 | apply InitE.c3 | apply InitE.c4 | apply InitE.c5 | apply InitE.c6 | apply InitE.c7 | apply InitE.c8 | apply InitE.c9 | apply InitE.c10 | apply InitE.c11))
  repeat' (first
    | apply RG.nil
    | apply Lex.nil
    | apply Then.n
    | apply Then.r
    | apply Then.x
    | apply InBlock.n
    | apply InBlock.r
    | apply InBlock.hit
    | (apply InBlock.miss; exact rfl)
    | apply W.seq
    | apply W.region
    | apply W.block
    | apply W.skip
    | apply W.ret
    | apply W.exit
    | ((first | apply U_); (first
    | (apply Q_move; (refine Ev.of rfl ?_; first | exact fun _ => ⟨⟩ | exact id | exact And.right | exact And.left | exact (·.1.2) | exact (·.1.1) | exact (·.1.1.1) | exact (·.1.1.2)))
    | (apply Q_assign; (refine Ev.of rfl ?_; first | exact fun _ => ⟨⟩ | exact id | exact And.right | exact And.left | exact (·.1.2) | exact (·.1.1) | exact (·.1.1.1) | exact (·.1.1.2)))
    | (apply Q_call (hasPrefix0_ok s x); (repeat (first | exact EvL.nil | refine EvL.cons (by refine Ev.of rfl ?_; first | exact fun _ => ⟨⟩ | exact id | exact And.right | exact And.left | exact (·.1.2) | exact (·.1.1) | exact (·.1.1.1) | exact (·.1.1.2)) rfl (by first | exact PSub.rfl' | exact PSub.nil' | (refine PSub.of_eq ?_; simp only [List.map_append, List.map_cons, List.map_nil, List.nil_append]; rfl)) ?_)); exact rfl)); exact rfl)
    | (refine W.cond (by refine Ev.of rfl ?_; first | exact fun _ => ⟨⟩ | exact id | exact And.right | exact And.left | exact (·.1.2) | exact (·.1.1) | exact (·.1.1.1) | exact (·.1.1.2)) (fun hb => ?_) (fun hb => ?_) <;> (try simp at hb) <;> (try (exfalso; omega))))
  exact Fin.ret (by repeat (first | exact ResL.nil | refine ResL.cons rfl rfl (by first | exact PSub.rfl' | exact PSub.nil' | (refine PSub.of_eq ?_; simp; done) | (refine PSub.of_eq ?_; simp only [List.map_append, List.map_cons, List.map_nil]; rfl) | (refine PSub.of_eq ?_; simp; rfl)) ?_))
/-! ### numbers -/
theorem u48 (c : UInt8) : c = 48 ↔ (c.toNat : Int) = 48 := by rw [u8_eq]; rfl
theorem number_ok (s : Str) (hl : s.length ≤ 9223372036854775807) : ACalls Tryd.prog 13 [cS s] (.tup [cI (numberF s).1, cB (numberF s).2]) := by
  refine ACalls.of_W (qs := [cI (numberF s).1, cB (numberF s).2]) [2, 3] 46 Tryd.func13 (by kernel_rfl) rfl rfl rfl fun G => ?_
  apply W.init (by repeat (first | exact InitE.nil | apply InitE.c0 | apply InitE.c1 | apply InitE.c2 | apply InitE.c3 | apply InitE.c4 | apply InitE.c5 | apply InitE.c6 | apply InitE.c7 | apply InitE.c8 | apply InitE.c9 | apply InitE.c10 | apply InitE.c11))
  by_cases h0 : s = []
  · subst h0
    repeat' (first
      | apply RG.nil
      | apply Lex.nil
      | apply Then.n
      | apply Then.r
      | apply Then.x
      | apply InBlock.n
      | apply InBlock.r
      | apply InBlock.hit
      | (apply InBlock.miss; exact rfl)
      | apply W.seq
      | apply W.region
      | apply W.block
      | apply W.skip
      | apply W.ret
      | apply W.exit
      | ((first | apply U_ | (apply Ug_; exact rfl; exact rfl) | (apply Ugq_; exact rfl; exact rfl)); (first
    | (apply Q_move; (refine Ev.of rfl ?_; first | exact fun _ => ⟨⟩ | exact id | exact And.right | exact And.left | exact (·.1.2) | exact (·.1.1) | exact (·.1.1.1) | exact (·.1.1.2)))
    | (apply Q_assign; (refine Ev.of rfl ?_; first | exact fun _ => ⟨⟩ | exact id | exact And.right | exact And.left | exact (·.1.2) | exact (·.1.1) | exact (·.1.1.1) | exact (·.1.1.2)))
    | (apply Q_add; (refine Ev.of rfl ?_; first | exact fun _ => ⟨⟩ | exact id | exact And.right | exact And.left | exact (·.1.2) | exact (·.1.1) | exact (·.1.1.1) | exact (·.1.1.2)); (refine Ev.of rfl ?_; first | exact fun _ => ⟨⟩ | exact id | exact And.right | exact And.left | exact (·.1.2) | exact (·.1.1) | exact (·.1.1.1) | exact (·.1.1.2)); (first | omega | (constructor <;> omega)))
    | (apply Q_sub; (refine Ev.of rfl ?_; first | exact fun _ => ⟨⟩ | exact id | exact And.right | exact And.left | exact (·.1.2) | exact (·.1.1) | exact (·.1.1.1) | exact (·.1.1.2)); (refine Ev.of rfl ?_; first | exact fun _ => ⟨⟩ | exact id | exact And.right | exact And.left | exact (·.1.2) | exact (·.1.1) | exact (·.1.1.1) | exact (·.1.1.2)); (first | omega | (constructor <;> omega)))
    | (apply Q_mul; (refine Ev.of rfl ?_; first | exact fun _ => ⟨⟩ | exact id | exact And.right | exact And.left | exact (·.1.2) | exact (·.1.1) | exact (·.1.1.1) | exact (·.1.1.2)); (refine Ev.of rfl ?_; first | exact fun _ => ⟨⟩ | exact id | exact And.right | exact And.left | exact (·.1.2) | exact (·.1.1) | exact (·.1.1.1) | exact (·.1.1.2)); (first | omega | (constructor <;> omega)))
    | (apply Q_add8; (refine Ev.of rfl ?_; first | exact fun _ => ⟨⟩ | exact id | exact And.right | exact And.left | exact (·.1.2) | exact (·.1.1) | exact (·.1.1.1) | exact (·.1.1.2)); (refine Ev.of rfl ?_; first | exact fun _ => ⟨⟩ | exact id | exact And.right | exact And.left | exact (·.1.2) | exact (·.1.1) | exact (·.1.1.1) | exact (·.1.1.2)); (first | omega | (constructor <;> omega)))
    | (apply Q_sub8; (refine Ev.of rfl ?_; first | exact fun _ => ⟨⟩ | exact id | exact And.right | exact And.left | exact (·.1.2) | exact (·.1.1) | exact (·.1.1.1) | exact (·.1.1.2)); (refine Ev.of rfl ?_; first | exact fun _ => ⟨⟩ | exact id | exact And.right | exact And.left | exact (·.1.2) | exact (·.1.1) | exact (·.1.1.1) | exact (·.1.1.2)); (first | omega | (constructor <;> omega)))
    | (apply Q_bin; (refine Ev.of rfl ?_; first | exact fun _ => ⟨⟩ | exact id | exact And.right | exact And.left | exact (·.1.2) | exact (·.1.1) | exact (·.1.1.1) | exact (·.1.1.2)); (refine Ev.of rfl ?_; first | exact fun _ => ⟨⟩ | exact id | exact And.right | exact And.left | exact (·.1.2) | exact (·.1.1) | exact (·.1.1.1) | exact (·.1.1.2)); exact rfl)
    | (apply Q_or; (refine Ev.of rfl ?_; first | exact fun _ => ⟨⟩ | exact id | exact And.right | exact And.left | exact (·.1.2) | exact (·.1.1) | exact (·.1.1.1) | exact (·.1.1.2)); (refine Ev.of rfl ?_; first | exact fun _ => ⟨⟩ | exact id | exact And.right | exact And.left | exact (·.1.2) | exact (·.1.1) | exact (·.1.1.1) | exact (·.1.1.2)))
    | (apply Q_and; (refine Ev.of rfl ?_; first | exact fun _ => ⟨⟩ | exact id | exact And.right | exact And.left | exact (·.1.2) | exact (·.1.1) | exact (·.1.1.1) | exact (·.1.1.2)); (refine Ev.of rfl ?_; first | exact fun _ => ⟨⟩ | exact id | exact And.right | exact And.left | exact (·.1.2) | exact (·.1.1) | exact (·.1.1.1) | exact (·.1.1.2)))
    | (apply Q_lenm TYok; (refine Ev.of rfl ?_; first | exact fun _ => ⟨⟩ | exact id | exact And.right | exact And.left | exact (·.1.2) | exact (·.1.1) | exact (·.1.1.1) | exact (·.1.1.2)); exact rfl; exact rfl)
    | (apply Q_lend TYok; (refine Ev.of rfl ?_; first | exact fun _ => ⟨⟩ | exact id | exact And.right | exact And.left | exact (·.1.2) | exact (·.1.1) | exact (·.1.1.1) | exact (·.1.1.2)); exact rfl; exact rfl)
    | (apply Q_lenom TYok; (refine Ev.of rfl ?_; first | exact fun _ => ⟨⟩ | exact id | exact And.right | exact And.left | exact (·.1.2) | exact (·.1.1) | exact (·.1.1.1) | exact (·.1.1.2)); exact rfl; exact rfl; exact rfl)
    | (apply Q_len TYok; (refine Ev.of rfl ?_; first | exact fun _ => ⟨⟩ | exact id | exact And.right | exact And.left | exact (·.1.2) | exact (·.1.1) | exact (·.1.1.1) | exact (·.1.1.2)); exact rfl; exact rfl; exact rfl)
    | (apply Q_len0 TYok; (refine Ev.of rfl ?_; first | exact fun _ => ⟨⟩ | exact id | exact And.right | exact And.left | exact (·.1.2) | exact (·.1.1) | exact (·.1.1.1) | exact (·.1.1.2)); exact rfl; exact rfl)
    | (apply Q_lens TYok; (refine Ev.of rfl ?_; first | exact fun _ => ⟨⟩ | exact id | exact And.right | exact And.left | exact (·.1.2) | exact (·.1.1) | exact (·.1.1.1) | exact (·.1.1.2)); exact rfl; exact rfl)
    | (apply Q_binS; (refine Ev.of rfl ?_; first | exact fun _ => ⟨⟩ | exact id | exact And.right | exact And.left | exact (·.1.2) | exact (·.1.1) | exact (·.1.1.1) | exact (·.1.1.2)); (refine Ev.of rfl ?_; first | exact fun _ => ⟨⟩ | exact id | exact And.right | exact And.left | exact (·.1.2) | exact (·.1.1) | exact (·.1.1.1) | exact (·.1.1.2)); exact rfl)
    | (apply Q_binB TYok; (refine Ev.of rfl ?_; first | exact fun _ => ⟨⟩ | exact id | exact And.right | exact And.left | exact (·.1.2) | exact (·.1.1) | exact (·.1.1.1) | exact (·.1.1.2)); (refine Ev.of rfl ?_; first | exact fun _ => ⟨⟩ | exact id | exact And.right | exact And.left | exact (·.1.2) | exact (·.1.1) | exact (·.1.1.1) | exact (·.1.1.2)); exact rfl; exact rfl; exact rfl)
    | (apply Q_convI TYok; exact rfl; exact rfl; exact rfl; exact rfl; (refine Ev.of rfl ?_; first | exact fun _ => ⟨⟩ | exact id | exact And.right | exact And.left | exact (·.1.2) | exact (·.1.1) | exact (·.1.1.1) | exact (·.1.1.2)); (first | omega | (constructor <;> omega)))
    | (apply Q_conv TYok; exact rfl; exact rfl; exact rfl; exact rfl; (refine Ev.of rfl ?_; first | exact fun _ => ⟨⟩ | exact id | exact And.right | exact And.left | exact (·.1.2) | exact (·.1.1) | exact (·.1.1.1) | exact (·.1.1.2)))
    | (apply Q_indexs TYok; (refine Ev.of rfl ?_; first | exact fun _ => ⟨⟩ | exact id | exact And.right | exact And.left | exact (·.1.2) | exact (·.1.1) | exact (·.1.1.1) | exact (·.1.1.2)); (refine Ev.of rfl ?_; first | exact fun _ => ⟨⟩ | exact id | exact And.right | exact And.left | exact (·.1.2) | exact (·.1.1) | exact (·.1.1.1) | exact (·.1.1.2)); exact rfl; exact rfl; (intro hg; first | exact strAt (by first | omega | (simp at hg; omega) | (simp at hg; done) | fail) | (refine strAt ?_; simp at hg; first | exact Int.ofNat_lt.1 hg | exact Int.ofNat_lt.1 hg.1 | exact Int.ofNat_lt.1 hg.2)))
    | (apply Q_cat; (refine Ev.of rfl ?_; first | exact fun _ => ⟨⟩ | exact id | exact And.right | exact And.left | exact (·.1.2) | exact (·.1.1) | exact (·.1.1.1) | exact (·.1.1.2)); (refine Ev.of rfl ?_; first | exact fun _ => ⟨⟩ | exact id | exact And.right | exact And.left | exact (·.1.2) | exact (·.1.1) | exact (·.1.1.1) | exact (·.1.1.2)); (intro hg; first | omega | (simp; omega) | (simp at hg ⊢; omega)))
    | (apply Q_call (span_ok [] 26 digitF hl (digit_ok 0).fn digit_ok); (repeat (first | exact EvL.nil | refine EvL.cons (by refine Ev.of rfl ?_; first | exact fun _ => ⟨⟩ | exact id | exact And.right | exact And.left | exact (·.1.2) | exact (·.1.1) | exact (·.1.1.1) | exact (·.1.1.2)) rfl (by first | exact PSub.rfl' | exact PSub.nil' | (refine PSub.of_eq ?_; simp only [List.map_append, List.map_cons, List.map_nil, List.nil_append]; rfl)) ?_)); exact rfl)); exact rfl)
      | (apply S_isnil TYok; exact rfl; exact rfl; exact rfl; (refine Ev.of rfl ?_; first | exact fun _ => ⟨⟩ | exact id | exact And.right | exact And.left | exact (·.1.2) | exact (·.1.1) | exact (·.1.1.1) | exact (·.1.1.2)); intro bn hnil)
      | (apply RG.gT; exact rfl; exact rfl; (first | assumption | decide))
      | (apply RG.gF; exact rfl; exact rfl; (first | assumption | decide); exact rfl)
      | (refine W.cond (by refine Ev.of rfl ?_; first | exact fun _ => ⟨⟩ | exact id | exact And.right | exact And.left | exact (·.1.2) | exact (·.1.1) | exact (·.1.1.1) | exact (·.1.1.2)) (fun hb => ?_) (fun hb => ?_) <;> (try simp at hb) <;> (try (exfalso; omega))))
    · exact Fin.ret (by repeat (first | exact ResL.nil | refine ResL.cons rfl rfl (by first | exact PSub.rfl' | exact PSub.nil' | (refine PSub.of_eq ?_; simp; done) | (refine PSub.of_eq ?_; simp only [List.map_append, List.map_cons, List.map_nil]; rfl) | (refine PSub.of_eq ?_; simp; rfl)) ?_))
  have hpos : 0 < s.length := List.length_pos_iff.2 h0
  repeat' (first
    | apply RG.nil
    | apply Lex.nil
    | apply Then.n
    | apply Then.r
    | apply Then.x
    | apply InBlock.n
    | apply InBlock.r
    | apply InBlock.hit
    | (apply InBlock.miss; exact rfl)
    | apply W.seq
    | apply W.region
    | apply W.block
    | apply W.skip
    | apply W.ret
    | apply W.exit
    | ((first | apply U_ | (apply Ug_; exact rfl; exact rfl) | (apply Ugq_; exact rfl; exact rfl)); (first
    | (apply Q_move; (refine Ev.of rfl ?_; first | exact fun _ => ⟨⟩ | exact id | exact And.right | exact And.left | exact (·.1.2) | exact (·.1.1) | exact (·.1.1.1) | exact (·.1.1.2)))
    | (apply Q_assign; (refine Ev.of rfl ?_; first | exact fun _ => ⟨⟩ | exact id | exact And.right | exact And.left | exact (·.1.2) | exact (·.1.1) | exact (·.1.1.1) | exact (·.1.1.2)))
    | (apply Q_add; (refine Ev.of rfl ?_; first | exact fun _ => ⟨⟩ | exact id | exact And.right | exact And.left | exact (·.1.2) | exact (·.1.1) | exact (·.1.1.1) | exact (·.1.1.2)); (refine Ev.of rfl ?_; first | exact fun _ => ⟨⟩ | exact id | exact And.right | exact And.left | exact (·.1.2) | exact (·.1.1) | exact (·.1.1.1) | exact (·.1.1.2)); (first | omega | (constructor <;> omega)))
    | (apply Q_sub; (refine Ev.of rfl ?_; first | exact fun _ => ⟨⟩ | exact id | exact And.right | exact And.left | exact (·.1.2) | exact (·.1.1) | exact (·.1.1.1) | exact (·.1.1.2)); (refine Ev.of rfl ?_; first | exact fun _ => ⟨⟩ | exact id | exact And.right | exact And.left | exact (·.1.2) | exact (·.1.1) | exact (·.1.1.1) | exact (·.1.1.2)); (first | omega | (constructor <;> omega)))
    | (apply Q_mul; (refine Ev.of rfl ?_; first | exact fun _ => ⟨⟩ | exact id | exact And.right | exact And.left | exact (·.1.2) | exact (·.1.1) | exact (·.1.1.1) | exact (·.1.1.2)); (refine Ev.of rfl ?_; first | exact fun _ => ⟨⟩ | exact id | exact And.right | exact And.left | exact (·.1.2) | exact (·.1.1) | exact (·.1.1.1) | exact (·.1.1.2)); (first | omega | (constructor <;> omega)))
    | (apply Q_add8; (refine Ev.of rfl ?_; first | exact fun _ => ⟨⟩ | exact id | exact And.right | exact And.left | exact (·.1.2) | exact (·.1.1) | exact (·.1.1.1) | exact (·.1.1.2)); (refine Ev.of rfl ?_; first | exact fun _ => ⟨⟩ | exact id | exact And.right | exact And.left | exact (·.1.2) | exact (·.1.1) | exact (·.1.1.1) | exact (·.1.1.2)); (first | omega | (constructor <;> omega)))
    | (apply Q_sub8; (refine Ev.of rfl ?_; first | exact fun _ => ⟨⟩ | exact id | exact And.right | exact And.left | exact (·.1.2) | exact (·.1.1) | exact (·.1.1.1) | exact (·.1.1.2)); (refine Ev.of rfl ?_; first | exact fun _ => ⟨⟩ | exact id | exact And.right | exact And.left | exact (·.1.2) | exact (·.1.1) | exact (·.1.1.1) | exact (·.1.1.2)); (first | omega | (constructor <;> omega)))
    | (apply Q_bin; (refine Ev.of rfl ?_; first | exact fun _ => ⟨⟩ | exact id | exact And.right | exact And.left | exact (·.1.2) | exact (·.1.1) | exact (·.1.1.1) | exact (·.1.1.2)); (refine Ev.of rfl ?_; first | exact fun _ => ⟨⟩ | exact id | exact And.right | exact And.left | exact (·.1.2) | exact (·.1.1) | exact (·.1.1.1) | exact (·.1.1.2)); exact rfl)
    | (apply Q_or; (refine Ev.of rfl ?_; first | exact fun _ => ⟨⟩ | exact id | exact And.right | exact And.left | exact (·.1.2) | exact (·.1.1) | exact (·.1.1.1) | exact (·.1.1.2)); (refine Ev.of rfl ?_; first | exact fun _ => ⟨⟩ | exact id | exact And.right | exact And.left | exact (·.1.2) | exact (·.1.1) | exact (·.1.1.1) | exact (·.1.1.2)))
    | (apply Q_and; (refine Ev.of rfl ?_; first | exact fun _ => ⟨⟩ | exact id | exact And.right | exact And.left | exact (·.1.2) | exact (·.1.1) | exact (·.1.1.1) | exact (·.1.1.2)); (refine Ev.of rfl ?_; first | exact fun _ => ⟨⟩ | exact id | exact And.right | exact And.left | exact (·.1.2) | exact (·.1.1) | exact (·.1.1.1) | exact (·.1.1.2)))
    | (apply Q_lenm TYok; (refine Ev.of rfl ?_; first | exact fun _ => ⟨⟩ | exact id | exact And.right | exact And.left | exact (·.1.2) | exact (·.1.1) | exact (·.1.1.1) | exact (·.1.1.2)); exact rfl; exact rfl)
    | (apply Q_lend TYok; (refine Ev.of rfl ?_; first | exact fun _ => ⟨⟩ | exact id | exact And.right | exact And.left | exact (·.1.2) | exact (·.1.1) | exact (·.1.1.1) | exact (·.1.1.2)); exact rfl; exact rfl)
    | (apply Q_lenom TYok; (refine Ev.of rfl ?_; first | exact fun _ => ⟨⟩ | exact id | exact And.right | exact And.left | exact (·.1.2) | exact (·.1.1) | exact (·.1.1.1) | exact (·.1.1.2)); exact rfl; exact rfl; exact rfl)
    | (apply Q_len TYok; (refine Ev.of rfl ?_; first | exact fun _ => ⟨⟩ | exact id | exact And.right | exact And.left | exact (·.1.2) | exact (·.1.1) | exact (·.1.1.1) | exact (·.1.1.2)); exact rfl; exact rfl; exact rfl)
    | (apply Q_len0 TYok; (refine Ev.of rfl ?_; first | exact fun _ => ⟨⟩ | exact id | exact And.right | exact And.left | exact (·.1.2) | exact (·.1.1) | exact (·.1.1.1) | exact (·.1.1.2)); exact rfl; exact rfl)
    | (apply Q_lens TYok; (refine Ev.of rfl ?_; first | exact fun _ => ⟨⟩ | exact id | exact And.right | exact And.left | exact (·.1.2) | exact (·.1.1) | exact (·.1.1.1) | exact (·.1.1.2)); exact rfl; exact rfl)
    | (apply Q_binS; (refine Ev.of rfl ?_; first | exact fun _ => ⟨⟩ | exact id | exact And.right | exact And.left | exact (·.1.2) | exact (·.1.1) | exact (·.1.1.1) | exact (·.1.1.2)); (refine Ev.of rfl ?_; first | exact fun _ => ⟨⟩ | exact id | exact And.right | exact And.left | exact (·.1.2) | exact (·.1.1) | exact (·.1.1.1) | exact (·.1.1.2)); exact rfl)
    | (apply Q_binB TYok; (refine Ev.of rfl ?_; first | exact fun _ => ⟨⟩ | exact id | exact And.right | exact And.left | exact (·.1.2) | exact (·.1.1) | exact (·.1.1.1) | exact (·.1.1.2)); (refine Ev.of rfl ?_; first | exact fun _ => ⟨⟩ | exact id | exact And.right | exact And.left | exact (·.1.2) | exact (·.1.1) | exact (·.1.1.1) | exact (·.1.1.2)); exact rfl; exact rfl; exact rfl)
    | (apply Q_convI TYok; exact rfl; exact rfl; exact rfl; exact rfl; (refine Ev.of rfl ?_; first | exact fun _ => ⟨⟩ | exact id | exact And.right | exact And.left | exact (·.1.2) | exact (·.1.1) | exact (·.1.1.1) | exact (·.1.1.2)); (first | omega | (constructor <;> omega)))
    | (apply Q_conv TYok; exact rfl; exact rfl; exact rfl; exact rfl; (refine Ev.of rfl ?_; first | exact fun _ => ⟨⟩ | exact id | exact And.right | exact And.left | exact (·.1.2) | exact (·.1.1) | exact (·.1.1.1) | exact (·.1.1.2)))
    | (apply Q_indexs TYok; (refine Ev.of rfl ?_; first | exact fun _ => ⟨⟩ | exact id | exact And.right | exact And.left | exact (·.1.2) | exact (·.1.1) | exact (·.1.1.1) | exact (·.1.1.2)); (refine Ev.of rfl ?_; first | exact fun _ => ⟨⟩ | exact id | exact And.right | exact And.left | exact (·.1.2) | exact (·.1.1) | exact (·.1.1.1) | exact (·.1.1.2)); exact rfl; exact rfl; (intro hg; first | exact strAt (by first | omega | (simp at hg; omega) | (simp at hg; done) | fail) | (refine strAt ?_; simp at hg; first | exact Int.ofNat_lt.1 hg | exact Int.ofNat_lt.1 hg.1 | exact Int.ofNat_lt.1 hg.2)))
    | (apply Q_cat; (refine Ev.of rfl ?_; first | exact fun _ => ⟨⟩ | exact id | exact And.right | exact And.left | exact (·.1.2) | exact (·.1.1) | exact (·.1.1.1) | exact (·.1.1.2)); (refine Ev.of rfl ?_; first | exact fun _ => ⟨⟩ | exact id | exact And.right | exact And.left | exact (·.1.2) | exact (·.1.1) | exact (·.1.1.1) | exact (·.1.1.2)); (intro hg; first | omega | (simp; omega) | (simp at hg ⊢; omega)))
    | (apply Q_call (span_ok s 26 digitF hl (digit_ok 0).fn digit_ok); (repeat (first | exact EvL.nil | refine EvL.cons (by refine Ev.of rfl ?_; first | exact fun _ => ⟨⟩ | exact id | exact And.right | exact And.left | exact (·.1.2) | exact (·.1.1) | exact (·.1.1.1) | exact (·.1.1.2)) rfl (by first | exact PSub.rfl' | exact PSub.nil' | (refine PSub.of_eq ?_; simp only [List.map_append, List.map_cons, List.map_nil, List.nil_append]; rfl)) ?_)); exact rfl)); exact rfl)
    | (apply S_isnil TYok; exact rfl; exact rfl; exact rfl; (refine Ev.of rfl ?_; first | exact fun _ => ⟨⟩ | exact id | exact And.right | exact And.left | exact (·.1.2) | exact (·.1.1) | exact (·.1.1.1) | exact (·.1.1.2)); intro bn hnil)
    | (apply RG.gT; exact rfl; exact rfl; (first | assumption | decide))
    | (apply RG.gF; exact rfl; exact rfl; (first | assumption | decide); exact rfl)
    | (refine W.cond (by refine Ev.of rfl ?_; first | exact fun _ => ⟨⟩ | exact id | exact And.right | exact And.left | exact (·.1.2) | exact (·.1.1) | exact (·.1.1.1) | exact (·.1.1.2)) (fun hb => ?_) (fun hb => ?_) <;> (try simp at hb) <;> (try (exfalso; omega))))
  · have e : numberF s = (0, false) := number_no fun h => by
      obtain ⟨_, q2, q3, q4, _⟩ := numOk_iff.1 h
      have q2' := tw_full q2
      rw [byt_nth, ne_eq, u48] at q3
      rcases hb with ((hb | hb) | hb) | hb
      · exact h0 hb
      · rw [q2'] at hb; exact hb rfl
      · rcases q3 with q3 | q3
        · cases s with
          | nil => exact h0 rfl
          | cons c s =>
            simp at q3
            subst q3
            have e1 : nth [c] 0 = c := by unfold nth; rfl
            rw [e1] at hb
            exact hb.2 (by rw [(u48 c).2 hb.1])
        · exact q3 hb.1
      · omega
    rw [e]
    exact Fin.ret (by repeat (first | exact ResL.nil | refine ResL.cons rfl rfl (by first | exact PSub.rfl' | exact PSub.nil' | (refine PSub.of_eq ?_; simp; done) | (refine PSub.of_eq ?_; simp only [List.map_append, List.map_cons, List.map_nil]; rfl) | (refine PSub.of_eq ?_; simp; rfl)) ?_))
  · have hq := hb.1
    have hq16 := hb.2
    have hd : s.all digitF = true := by rw [← tw_all]; exact decide_eq_true hb.1.1.2
    have hdig : ∀ k, k < s.length → (48 : Int) ≤ ((nth s k).toNat : Int) ∧ ((nth s k).toNat : Int) ≤ 57 := fun k hk => by
      have : nth s k ∈ s := by unfold nth; simp [List.getD, hk]
      have := digit_nat (List.all_eq_true.1 hd _ this)
      omega
    have hlt : ∀ k, k < s.length → ((numV (s.take k) : Nat) : Int) ≤ 999999999999999 := fun k hk => by
      have := numV_lt (all_take hd k) (k := 15) (by simp; omega)
      have h4 : (10 : Nat) ^ 15 = 1000000000000000 := by decide
      omega
    have hst : ∀ k, k < s.length → ((numV (s.take (k + 1)) : Nat) : Int) = 10 * ((numV (s.take k) : Nat) : Int) + (((nth s k).toNat : Int) - 48) := fun k hk => by
      rw [numV_take hk, byt_nth]; have := hdig k hk; omega
    apply W.loopP (σ := Nat) 46 [0, 30] (fun k => k ≤ s.length) (fun k => [(4, vI (numV (s.take k) : Nat)), (31, vI k)]) (fun _ => []) (fun k => s.length - k) (0)
    case hp => repeat (first | exact Pick.nil | apply Pick.cons rfl)
    case h0 =>
      refine ⟨by simp, ?_⟩
      refine Le.mkR rfl rfl ?_ ?_ ?_ rfl
      · repeat (first | exact SubR.nil | apply SubR.p rfl (by first | rfl | (simp; done) | (congr 3; omega) | (congr 3; simp; omega)) | apply SubR.s rfl rfl rfl | apply SubR.a rfl rfl rfl | apply SubR.t rfl rfl | apply SubR.m rfl rfl rfl | apply SubR.i rfl rfl rfl rfl rfl)
      · repeat (first | exact SubR.nil | apply SubR.p rfl (by first | rfl | (simp; done) | (congr 3; omega) | (congr 3; simp; omega)) | apply SubR.s rfl rfl rfl | apply SubR.a rfl rfl rfl | apply SubR.t rfl rfl | apply SubR.m rfl rfl rfl | apply SubR.i rfl rfl rfl rfl rfl)
      · repeat (first | exact SubBR.nil | apply SubBR.cons rfl (by first | rfl | (simp only [List.map_append, List.map_replicate, List.map_cons, List.map_nil]; rfl) | (simp only [List.map_append, List.map_cons, List.map_nil, List.append_assoc, List.cons_append, List.nil_append]; rfl) | (simp; done)))
    case round =>
      rintro k h1
      apply W.norm (by repeat (first | exact App.nil | apply App.cons))
      by_cases hk : k < s.length
      · have g1 := hdig k hk
        have g2 := hlt k hk
        have g3 := hst k hk
        repeat' (first
          | apply RG.nil
          | apply Lex.nil
          | apply Then.n
          | apply Then.r
          | apply Then.x
          | apply InBlock.n
          | apply InBlock.r
          | apply InBlock.hit
          | (apply InBlock.miss; exact rfl)
          | apply W.seq
          | apply W.region
          | apply W.block
          | apply W.skip
          | apply W.ret
          | apply W.exit
          | ((first | apply U_ | (apply Ug_; exact rfl; exact rfl) | (apply Ugq_; exact rfl; exact rfl)); (first
    | (apply Q_move; (refine Ev.of rfl ?_; first | exact fun _ => ⟨⟩ | exact id | exact And.right | exact And.left | exact (·.1.2) | exact (·.1.1) | exact (·.1.1.1) | exact (·.1.1.2)))
    | (apply Q_assign; (refine Ev.of rfl ?_; first | exact fun _ => ⟨⟩ | exact id | exact And.right | exact And.left | exact (·.1.2) | exact (·.1.1) | exact (·.1.1.1) | exact (·.1.1.2)))
    | (apply Q_add; (refine Ev.of rfl ?_; first | exact fun _ => ⟨⟩ | exact id | exact And.right | exact And.left | exact (·.1.2) | exact (·.1.1) | exact (·.1.1.1) | exact (·.1.1.2)); (refine Ev.of rfl ?_; first | exact fun _ => ⟨⟩ | exact id | exact And.right | exact And.left | exact (·.1.2) | exact (·.1.1) | exact (·.1.1.1) | exact (·.1.1.2)); (first | omega | (constructor <;> omega)))
    | (apply Q_sub; (refine Ev.of rfl ?_; first | exact fun _ => ⟨⟩ | exact id | exact And.right | exact And.left | exact (·.1.2) | exact (·.1.1) | exact (·.1.1.1) | exact (·.1.1.2)); (refine Ev.of rfl ?_; first | exact fun _ => ⟨⟩ | exact id | exact And.right | exact And.left | exact (·.1.2) | exact (·.1.1) | exact (·.1.1.1) | exact (·.1.1.2)); (first | omega | (constructor <;> omega)))
    | (apply Q_mul; (refine Ev.of rfl ?_; first | exact fun _ => ⟨⟩ | exact id | exact And.right | exact And.left | exact (·.1.2) | exact (·.1.1) | exact (·.1.1.1) | exact (·.1.1.2)); (refine Ev.of rfl ?_; first | exact fun _ => ⟨⟩ | exact id | exact And.right | exact And.left | exact (·.1.2) | exact (·.1.1) | exact (·.1.1.1) | exact (·.1.1.2)); (first | omega | (constructor <;> omega)))
    | (apply Q_add8; (refine Ev.of rfl ?_; first | exact fun _ => ⟨⟩ | exact id | exact And.right | exact And.left | exact (·.1.2) | exact (·.1.1) | exact (·.1.1.1) | exact (·.1.1.2)); (refine Ev.of rfl ?_; first | exact fun _ => ⟨⟩ | exact id | exact And.right | exact And.left | exact (·.1.2) | exact (·.1.1) | exact (·.1.1.1) | exact (·.1.1.2)); (first | omega | (constructor <;> omega)))
    | (apply Q_sub8; (refine Ev.of rfl ?_; first | exact fun _ => ⟨⟩ | exact id | exact And.right | exact And.left | exact (·.1.2) | exact (·.1.1) | exact (·.1.1.1) | exact (·.1.1.2)); (refine Ev.of rfl ?_; first | exact fun _ => ⟨⟩ | exact id | exact And.right | exact And.left | exact (·.1.2) | exact (·.1.1) | exact (·.1.1.1) | exact (·.1.1.2)); (first | omega | (constructor <;> omega)))
    | (apply Q_bin; (refine Ev.of rfl ?_; first | exact fun _ => ⟨⟩ | exact id | exact And.right | exact And.left | exact (·.1.2) | exact (·.1.1) | exact (·.1.1.1) | exact (·.1.1.2)); (refine Ev.of rfl ?_; first | exact fun _ => ⟨⟩ | exact id | exact And.right | exact And.left | exact (·.1.2) | exact (·.1.1) | exact (·.1.1.1) | exact (·.1.1.2)); exact rfl)
    | (apply Q_or; (refine Ev.of rfl ?_; first | exact fun _ => ⟨⟩ | exact id | exact And.right | exact And.left | exact (·.1.2) | exact (·.1.1) | exact (·.1.1.1) | exact (·.1.1.2)); (refine Ev.of rfl ?_; first | exact fun _ => ⟨⟩ | exact id | exact And.right | exact And.left | exact (·.1.2) | exact (·.1.1) | exact (·.1.1.1) | exact (·.1.1.2)))
    | (apply Q_and; (refine Ev.of rfl ?_; first | exact fun _ => ⟨⟩ | exact id | exact And.right | exact And.left | exact (·.1.2) | exact (·.1.1) | exact (·.1.1.1) | exact (·.1.1.2)); (refine Ev.of rfl ?_; first | exact fun _ => ⟨⟩ | exact id | exact And.right | exact And.left | exact (·.1.2) | exact (·.1.1) | exact (·.1.1.1) | exact (·.1.1.2)))
    | (apply Q_lenm TYok; (refine Ev.of rfl ?_; first | exact fun _ => ⟨⟩ | exact id | exact And.right | exact And.left | exact (·.1.2) | exact (·.1.1) | exact (·.1.1.1) | exact (·.1.1.2)); exact rfl; exact rfl)
    | (apply Q_lend TYok; (refine Ev.of rfl ?_; first | exact fun _ => ⟨⟩ | exact id | exact And.right | exact And.left | exact (·.1.2) | exact (·.1.1) | exact (·.1.1.1) | exact (·.1.1.2)); exact rfl; exact rfl)
    | (apply Q_lenom TYok; (refine Ev.of rfl ?_; first | exact fun _ => ⟨⟩ | exact id | exact And.right | exact And.left | exact (·.1.2) | exact (·.1.1) | exact (·.1.1.1) | exact (·.1.1.2)); exact rfl; exact rfl; exact rfl)
    | (apply Q_len TYok; (refine Ev.of rfl ?_; first | exact fun _ => ⟨⟩ | exact id | exact And.right | exact And.left | exact (·.1.2) | exact (·.1.1) | exact (·.1.1.1) | exact (·.1.1.2)); exact rfl; exact rfl; exact rfl)
    | (apply Q_len0 TYok; (refine Ev.of rfl ?_; first | exact fun _ => ⟨⟩ | exact id | exact And.right | exact And.left | exact (·.1.2) | exact (·.1.1) | exact (·.1.1.1) | exact (·.1.1.2)); exact rfl; exact rfl)
    | (apply Q_lens TYok; (refine Ev.of rfl ?_; first | exact fun _ => ⟨⟩ | exact id | exact And.right | exact And.left | exact (·.1.2) | exact (·.1.1) | exact (·.1.1.1) | exact (·.1.1.2)); exact rfl; exact rfl)
    | (apply Q_binS; (refine Ev.of rfl ?_; first | exact fun _ => ⟨⟩ | exact id | exact And.right | exact And.left | exact (·.1.2) | exact (·.1.1) | exact (·.1.1.1) | exact (·.1.1.2)); (refine Ev.of rfl ?_; first | exact fun _ => ⟨⟩ | exact id | exact And.right | exact And.left | exact (·.1.2) | exact (·.1.1) | exact (·.1.1.1) | exact (·.1.1.2)); exact rfl)
    | (apply Q_binB TYok; (refine Ev.of rfl ?_; first | exact fun _ => ⟨⟩ | exact id | exact And.right | exact And.left | exact (·.1.2) | exact (·.1.1) | exact (·.1.1.1) | exact (·.1.1.2)); (refine Ev.of rfl ?_; first | exact fun _ => ⟨⟩ | exact id | exact And.right | exact And.left | exact (·.1.2) | exact (·.1.1) | exact (·.1.1.1) | exact (·.1.1.2)); exact rfl; exact rfl; exact rfl)
    | (apply Q_convI TYok; exact rfl; exact rfl; exact rfl; exact rfl; (refine Ev.of rfl ?_; first | exact fun _ => ⟨⟩ | exact id | exact And.right | exact And.left | exact (·.1.2) | exact (·.1.1) | exact (·.1.1.1) | exact (·.1.1.2)); (first | omega | (constructor <;> omega)))
    | (apply Q_conv TYok; exact rfl; exact rfl; exact rfl; exact rfl; (refine Ev.of rfl ?_; first | exact fun _ => ⟨⟩ | exact id | exact And.right | exact And.left | exact (·.1.2) | exact (·.1.1) | exact (·.1.1.1) | exact (·.1.1.2)))
    | (apply Q_indexs TYok; (refine Ev.of rfl ?_; first | exact fun _ => ⟨⟩ | exact id | exact And.right | exact And.left | exact (·.1.2) | exact (·.1.1) | exact (·.1.1.1) | exact (·.1.1.2)); (refine Ev.of rfl ?_; first | exact fun _ => ⟨⟩ | exact id | exact And.right | exact And.left | exact (·.1.2) | exact (·.1.1) | exact (·.1.1.1) | exact (·.1.1.2)); exact rfl; exact rfl; (intro hg; first | exact strAt (by first | omega | (simp at hg; omega) | (simp at hg; done) | fail) | (refine strAt ?_; simp at hg; first | exact Int.ofNat_lt.1 hg | exact Int.ofNat_lt.1 hg.1 | exact Int.ofNat_lt.1 hg.2)))
    | (apply Q_cat; (refine Ev.of rfl ?_; first | exact fun _ => ⟨⟩ | exact id | exact And.right | exact And.left | exact (·.1.2) | exact (·.1.1) | exact (·.1.1.1) | exact (·.1.1.2)); (refine Ev.of rfl ?_; first | exact fun _ => ⟨⟩ | exact id | exact And.right | exact And.left | exact (·.1.2) | exact (·.1.1) | exact (·.1.1.1) | exact (·.1.1.2)); (intro hg; first | omega | (simp; omega) | (simp at hg ⊢; omega)))); exact rfl)
          | (apply S_isnil TYok; exact rfl; exact rfl; exact rfl; (refine Ev.of rfl ?_; first | exact fun _ => ⟨⟩ | exact id | exact And.right | exact And.left | exact (·.1.2) | exact (·.1.1) | exact (·.1.1.1) | exact (·.1.1.2)); intro bn hnil)
          | (apply RG.gT; exact rfl; exact rfl; (first | assumption | decide))
          | (apply RG.gF; exact rfl; exact rfl; (first | assumption | decide); exact rfl)
          | (refine W.cond (by refine Ev.of rfl ?_; first | exact fun _ => ⟨⟩ | exact id | exact And.right | exact And.left | exact (·.1.2) | exact (·.1.1) | exact (·.1.1.1) | exact (·.1.1.2)) (fun hb => ?_) (fun hb => ?_) <;> (try simp at hb) <;> (try (exfalso; omega))))
        refine ⟨k + 1, by omega, ?_, ?_⟩
        · rw [g3]
          refine Le.mkR rfl rfl ?_ ?_ ?_ rfl
          · repeat (first | exact SubR.nil | apply SubR.p rfl (by first | rfl | (simp; done) | (congr 3; omega) | (congr 3; simp; omega)) | apply SubR.s rfl rfl rfl | apply SubR.a rfl rfl rfl | apply SubR.t rfl rfl | apply SubR.m rfl rfl rfl | apply SubR.i rfl rfl rfl rfl rfl)
          · repeat (first | exact SubR.nil | apply SubR.p rfl (by first | rfl | (simp; done) | (congr 3; omega) | (congr 3; simp; omega)) | apply SubR.s rfl rfl rfl | apply SubR.a rfl rfl rfl | apply SubR.t rfl rfl | apply SubR.m rfl rfl rfl | apply SubR.i rfl rfl rfl rfl rfl)
          · repeat (first | exact SubBR.nil | apply SubBR.cons rfl (by first | rfl | (simp only [List.map_append, List.map_replicate, List.map_cons, List.map_nil]; rfl) | (simp only [List.map_append, List.map_cons, List.map_nil, List.append_assoc, List.cons_append, List.nil_append]; rfl) | (simp; done)))
        · (try simp only); omega
      · obtain rfl : k = s.length := by omega
        have hn : s.take s.length = s := List.take_length
        repeat' (first
          | apply RG.nil
          | apply Lex.nil
          | apply Then.n
          | apply Then.r
          | apply Then.x
          | apply InBlock.n
          | apply InBlock.r
          | apply InBlock.hit
          | (apply InBlock.miss; exact rfl)
          | apply W.seq
          | apply W.region
          | apply W.block
          | apply W.skip
          | apply W.ret
          | apply W.exit
          | ((first | apply U_ | (apply Ug_; exact rfl; exact rfl) | (apply Ugq_; exact rfl; exact rfl)); (first
    | (apply Q_move; (refine Ev.of rfl ?_; first | exact fun _ => ⟨⟩ | exact id | exact And.right | exact And.left | exact (·.1.2) | exact (·.1.1) | exact (·.1.1.1) | exact (·.1.1.2)))
    | (apply Q_assign; (refine Ev.of rfl ?_; first | exact fun _ => ⟨⟩ | exact id | exact And.right | exact And.left | exact (·.1.2) | exact (·.1.1) | exact (·.1.1.1) | exact (·.1.1.2)))
    | (apply Q_add; (refine Ev.of rfl ?_; first | exact fun _ => ⟨⟩ | exact id | exact And.right | exact And.left | exact (·.1.2) | exact (·.1.1) | exact (·.1.1.1) | exact (·.1.1.2)); (refine Ev.of rfl ?_; first | exact fun _ => ⟨⟩ | exact id | exact And.right | exact And.left | exact (·.1.2) | exact (·.1.1) | exact (·.1.1.1) | exact (·.1.1.2)); (first | omega | (constructor <;> omega)))
    | (apply Q_sub; (refine Ev.of rfl ?_; first | exact fun _ => ⟨⟩ | exact id | exact And.right | exact And.left | exact (·.1.2) | exact (·.1.1) | exact (·.1.1.1) | exact (·.1.1.2)); (refine Ev.of rfl ?_; first | exact fun _ => ⟨⟩ | exact id | exact And.right | exact And.left | exact (·.1.2) | exact (·.1.1) | exact (·.1.1.1) | exact (·.1.1.2)); (first | omega | (constructor <;> omega)))
    | (apply Q_mul; (refine Ev.of rfl ?_; first | exact fun _ => ⟨⟩ | exact id | exact And.right | exact And.left | exact (·.1.2) | exact (·.1.1) | exact (·.1.1.1) | exact (·.1.1.2)); (refine Ev.of rfl ?_; first | exact fun _ => ⟨⟩ | exact id | exact And.right | exact And.left | exact (·.1.2) | exact (·.1.1) | exact (·.1.1.1) | exact (·.1.1.2)); (first | omega | (constructor <;> omega)))
    | (apply Q_add8; (refine Ev.of rfl ?_; first | exact fun _ => ⟨⟩ | exact id | exact And.right | exact And.left | exact (·.1.2) | exact (·.1.1) | exact (·.1.1.1) | exact (·.1.1.2)); (refine Ev.of rfl ?_; first | exact fun _ => ⟨⟩ | exact id | exact And.right | exact And.left | exact (·.1.2) | exact (·.1.1) | exact (·.1.1.1) | exact (·.1.1.2)); (first | omega | (constructor <;> omega)))
    | (apply Q_sub8; (refine Ev.of rfl ?_; first | exact fun _ => ⟨⟩ | exact id | exact And.right | exact And.left | exact (·.1.2) | exact (·.1.1) | exact (·.1.1.1) | exact (·.1.1.2)); (refine Ev.of rfl ?_; first | exact fun _ => ⟨⟩ | exact id | exact And.right | exact And.left | exact (·.1.2) | exact (·.1.1) | exact (·.1.1.1) | exact (·.1.1.2)); (first | omega | (constructor <;> omega)))
    | (apply Q_bin; (refine Ev.of rfl ?_; first | exact fun _ => ⟨⟩ | exact id | exact And.right | exact And.left | exact (·.1.2) | exact (·.1.1) | exact (·.1.1.1) | exact (·.1.1.2)); (refine Ev.of rfl ?_; first | exact fun _ => ⟨⟩ | exact id | exact And.right | exact And.left | exact (·.1.2) | exact (·.1.1) | exact (·.1.1.1) | exact (·.1.1.2)); exact rfl)
    | (apply Q_or; (refine Ev.of rfl ?_; first | exact fun _ => ⟨⟩ | exact id | exact And.right | exact And.left | exact (·.1.2) | exact (·.1.1) | exact (·.1.1.1) | exact (·.1.1.2)); (refine Ev.of rfl ?_; first | exact fun _ => ⟨⟩ | exact id | exact And.right | exact And.left | exact (·.1.2) | exact (·.1.1) | exact (·.1.1.1) | exact (·.1.1.2)))
    | (apply Q_and; (refine Ev.of rfl ?_; first | exact fun _ => ⟨⟩ | exact id | exact And.right | exact And.left | exact (·.1.2) | exact (·.1.1) | exact (·.1.1.1) | exact (·.1.1.2)); (refine Ev.of rfl ?_; first | exact fun _ => ⟨⟩ | exact id | exact And.right | exact And.left | exact (·.1.2) | exact (·.1.1) | exact (·.1.1.1) | exact (·.1.1.2)))
    | (apply Q_lenm TYok; (refine Ev.of rfl ?_; first | exact fun _ => ⟨⟩ | exact id | exact And.right | exact And.left | exact (·.1.2) | exact (·.1.1) | exact (·.1.1.1) | exact (·.1.1.2)); exact rfl; exact rfl)
    | (apply Q_lend TYok; (refine Ev.of rfl ?_; first | exact fun _ => ⟨⟩ | exact id | exact And.right | exact And.left | exact (·.1.2) | exact (·.1.1) | exact (·.1.1.1) | exact (·.1.1.2)); exact rfl; exact rfl)
    | (apply Q_lenom TYok; (refine Ev.of rfl ?_; first | exact fun _ => ⟨⟩ | exact id | exact And.right | exact And.left | exact (·.1.2) | exact (·.1.1) | exact (·.1.1.1) | exact (·.1.1.2)); exact rfl; exact rfl; exact rfl)
    | (apply Q_len TYok; (refine Ev.of rfl ?_; first | exact fun _ => ⟨⟩ | exact id | exact And.right | exact And.left | exact (·.1.2) | exact (·.1.1) | exact (·.1.1.1) | exact (·.1.1.2)); exact rfl; exact rfl; exact rfl)
    | (apply Q_len0 TYok; (refine Ev.of rfl ?_; first | exact fun _ => ⟨⟩ | exact id | exact And.right | exact And.left | exact (·.1.2) | exact (·.1.1) | exact (·.1.1.1) | exact (·.1.1.2)); exact rfl; exact rfl)
    | (apply Q_lens TYok; (refine Ev.of rfl ?_; first | exact fun _ => ⟨⟩ | exact id | exact And.right | exact And.left | exact (·.1.2) | exact (·.1.1) | exact (·.1.1.1) | exact (·.1.1.2)); exact rfl; exact rfl)
    | (apply Q_binS; (refine Ev.of rfl ?_; first | exact fun _ => ⟨⟩ | exact id | exact And.right | exact And.left | exact (·.1.2) | exact (·.1.1) | exact (·.1.1.1) | exact (·.1.1.2)); (refine Ev.of rfl ?_; first | exact fun _ => ⟨⟩ | exact id | exact And.right | exact And.left | exact (·.1.2) | exact (·.1.1) | exact (·.1.1.1) | exact (·.1.1.2)); exact rfl)
    | (apply Q_binB TYok; (refine Ev.of rfl ?_; first | exact fun _ => ⟨⟩ | exact id | exact And.right | exact And.left | exact (·.1.2) | exact (·.1.1) | exact (·.1.1.1) | exact (·.1.1.2)); (refine Ev.of rfl ?_; first | exact fun _ => ⟨⟩ | exact id | exact And.right | exact And.left | exact (·.1.2) | exact (·.1.1) | exact (·.1.1.1) | exact (·.1.1.2)); exact rfl; exact rfl; exact rfl)
    | (apply Q_convI TYok; exact rfl; exact rfl; exact rfl; exact rfl; (refine Ev.of rfl ?_; first | exact fun _ => ⟨⟩ | exact id | exact And.right | exact And.left | exact (·.1.2) | exact (·.1.1) | exact (·.1.1.1) | exact (·.1.1.2)); (first | omega | (constructor <;> omega)))
    | (apply Q_conv TYok; exact rfl; exact rfl; exact rfl; exact rfl; (refine Ev.of rfl ?_; first | exact fun _ => ⟨⟩ | exact id | exact And.right | exact And.left | exact (·.1.2) | exact (·.1.1) | exact (·.1.1.1) | exact (·.1.1.2)))
    | (apply Q_indexs TYok; (refine Ev.of rfl ?_; first | exact fun _ => ⟨⟩ | exact id | exact And.right | exact And.left | exact (·.1.2) | exact (·.1.1) | exact (·.1.1.1) | exact (·.1.1.2)); (refine Ev.of rfl ?_; first | exact fun _ => ⟨⟩ | exact id | exact And.right | exact And.left | exact (·.1.2) | exact (·.1.1) | exact (·.1.1.1) | exact (·.1.1.2)); exact rfl; exact rfl; (intro hg; first | exact strAt (by first | omega | (simp at hg; omega) | (simp at hg; done) | fail) | (refine strAt ?_; simp at hg; first | exact Int.ofNat_lt.1 hg | exact Int.ofNat_lt.1 hg.1 | exact Int.ofNat_lt.1 hg.2)))
    | (apply Q_cat; (refine Ev.of rfl ?_; first | exact fun _ => ⟨⟩ | exact id | exact And.right | exact And.left | exact (·.1.2) | exact (·.1.1) | exact (·.1.1.1) | exact (·.1.1.2)); (refine Ev.of rfl ?_; first | exact fun _ => ⟨⟩ | exact id | exact And.right | exact And.left | exact (·.1.2) | exact (·.1.1) | exact (·.1.1.1) | exact (·.1.1.2)); (intro hg; first | omega | (simp; omega) | (simp at hg ⊢; omega)))); exact rfl)
          | (apply S_isnil TYok; exact rfl; exact rfl; exact rfl; (refine Ev.of rfl ?_; first | exact fun _ => ⟨⟩ | exact id | exact And.right | exact And.left | exact (·.1.2) | exact (·.1.1) | exact (·.1.1.1) | exact (·.1.1.2)); intro bn hnil)
          | (apply RG.gT; exact rfl; exact rfl; (first | assumption | decide))
          | (apply RG.gF; exact rfl; exact rfl; (first | assumption | decide); exact rfl)
          | (refine W.cond (by refine Ev.of rfl ?_; first | exact fun _ => ⟨⟩ | exact id | exact And.right | exact And.left | exact (·.1.2) | exact (·.1.1) | exact (·.1.1.1) | exact (·.1.1.2)) (fun hb => ?_) (fun hb => ?_) <;> (try simp at hb) <;> (try (exfalso; omega))))
        · have e : numberF s = (0, false) := number_no fun h => by
            have := (numOk_iff.1 h).2.2.2.2
            omega
          rw [e]
          exact Fin.ret (by repeat (first | exact ResL.nil | refine ResL.cons rfl rfl (by first | exact PSub.rfl' | exact PSub.nil' | (refine PSub.of_eq ?_; simp; done) | (refine PSub.of_eq ?_; simp only [List.map_append, List.map_cons, List.map_nil]; rfl) | (refine PSub.of_eq ?_; simp; rfl)) ?_))
        · have hok : numOk s = true := numOk_iff.2 ⟨h0, hd, by
            rw [byt_nth, ne_eq, u48]
            by_cases h48 : ((nth s 0).toNat : Int) = 48
            · left; rw [hq.2 h48]; rfl
            · exact .inr h48, by omega, by omega⟩
          rw [number_of hok]
          simp only [hn]
          exact Fin.ret (by repeat (first | exact ResL.nil | refine ResL.cons rfl rfl (by first | exact PSub.rfl' | exact PSub.nil' | (refine PSub.of_eq ?_; simp; done) | (refine PSub.of_eq ?_; simp only [List.map_append, List.map_cons, List.map_nil]; rfl) | (refine PSub.of_eq ?_; simp; rfl)) ?_))

theorem rnumber_ok (s : Str) (hl : s.length ≤ 9223372036854775807) : ACalls Tryd.prog 14 [cS s] (.tup [cI (numberF s).1, cB (numberF s).2]) := by
  refine ACalls.of_W (qs := [cI (numberF s).1, cB (numberF s).2]) [2, 3] 47 Tryd.func14 (by kernel_rfl) rfl rfl rfl fun G => ?_
  apply W.init (by repeat (first | exact InitE.nil | apply InitE.c0 | apply InitE.c1 | apply InitE.c2 | apply InitE.c3 | apply InitE.c4 | apply InitE.c5 | apply InitE.c6 | apply InitE.c7 | apply InitE.c8 | apply InitE.c9 | apply InitE.c10 | apply InitE.c11))
  repeat' (first
    | apply RG.nil
    | apply Lex.nil
    | apply Then.n
    | apply Then.r
    | apply Then.x
    | apply InBlock.n
    | apply InBlock.r
    | apply InBlock.hit
    | (apply InBlock.miss; exact rfl)
    | apply W.seq
    | apply W.region
    | apply W.block
    | apply W.skip
    | apply W.ret
    | apply W.exit
    | ((first | apply U_ | (apply Ug_; exact rfl; exact rfl) | (apply Ugq_; exact rfl; exact rfl)); (first
    | (apply Q_move; (refine Ev.of rfl ?_; first | exact fun _ => ⟨⟩ | exact id | exact And.right | exact And.left | exact (·.1.2) | exact (·.1.1) | exact (·.1.1.1) | exact (·.1.1.2)))
    | (apply Q_assign; (refine Ev.of rfl ?_; first | exact fun _ => ⟨⟩ | exact id | exact And.right | exact And.left | exact (·.1.2) | exact (·.1.1) | exact (·.1.1.1) | exact (·.1.1.2)))
    | (apply Q_add; (refine Ev.of rfl ?_; first | exact fun _ => ⟨⟩ | exact id | exact And.right | exact And.left | exact (·.1.2) | exact (·.1.1) | exact (·.1.1.1) | exact (·.1.1.2)); (refine Ev.of rfl ?_; first | exact fun _ => ⟨⟩ | exact id | exact And.right | exact And.left | exact (·.1.2) | exact (·.1.1) | exact (·.1.1.1) | exact (·.1.1.2)); (first | omega | (constructor <;> omega)))
    | (apply Q_sub; (refine Ev.of rfl ?_; first | exact fun _ => ⟨⟩ | exact id | exact And.right | exact And.left | exact (·.1.2) | exact (·.1.1) | exact (·.1.1.1) | exact (·.1.1.2)); (refine Ev.of rfl ?_; first | exact fun _ => ⟨⟩ | exact id | exact And.right | exact And.left | exact (·.1.2) | exact (·.1.1) | exact (·.1.1.1) | exact (·.1.1.2)); (first | omega | (constructor <;> omega)))
    | (apply Q_mul; (refine Ev.of rfl ?_; first | exact fun _ => ⟨⟩ | exact id | exact And.right | exact And.left | exact (·.1.2) | exact (·.1.1) | exact (·.1.1.1) | exact (·.1.1.2)); (refine Ev.of rfl ?_; first | exact fun _ => ⟨⟩ | exact id | exact And.right | exact And.left | exact (·.1.2) | exact (·.1.1) | exact (·.1.1.1) | exact (·.1.1.2)); (first | omega | (constructor <;> omega)))
    | (apply Q_add8; (refine Ev.of rfl ?_; first | exact fun _ => ⟨⟩ | exact id | exact And.right | exact And.left | exact (·.1.2) | exact (·.1.1) | exact (·.1.1.1) | exact (·.1.1.2)); (refine Ev.of rfl ?_; first | exact fun _ => ⟨⟩ | exact id | exact And.right | exact And.left | exact (·.1.2) | exact (·.1.1) | exact (·.1.1.1) | exact (·.1.1.2)); (first | omega | (constructor <;> omega)))
    | (apply Q_sub8; (refine Ev.of rfl ?_; first | exact fun _ => ⟨⟩ | exact id | exact And.right | exact And.left | exact (·.1.2) | exact (·.1.1) | exact (·.1.1.1) | exact (·.1.1.2)); (refine Ev.of rfl ?_; first | exact fun _ => ⟨⟩ | exact id | exact And.right | exact And.left | exact (·.1.2) | exact (·.1.1) | exact (·.1.1.1) | exact (·.1.1.2)); (first | omega | (constructor <;> omega)))
    | (apply Q_bin; (refine Ev.of rfl ?_; first | exact fun _ => ⟨⟩ | exact id | exact And.right | exact And.left | exact (·.1.2) | exact (·.1.1) | exact (·.1.1.1) | exact (·.1.1.2)); (refine Ev.of rfl ?_; first | exact fun _ => ⟨⟩ | exact id | exact And.right | exact And.left | exact (·.1.2) | exact (·.1.1) | exact (·.1.1.1) | exact (·.1.1.2)); exact rfl)
    | (apply Q_or; (refine Ev.of rfl ?_; first | exact fun _ => ⟨⟩ | exact id | exact And.right | exact And.left | exact (·.1.2) | exact (·.1.1) | exact (·.1.1.1) | exact (·.1.1.2)); (refine Ev.of rfl ?_; first | exact fun _ => ⟨⟩ | exact id | exact And.right | exact And.left | exact (·.1.2) | exact (·.1.1) | exact (·.1.1.1) | exact (·.1.1.2)))
    | (apply Q_and; (refine Ev.of rfl ?_; first | exact fun _ => ⟨⟩ | exact id | exact And.right | exact And.left | exact (·.1.2) | exact (·.1.1) | exact (·.1.1.1) | exact (·.1.1.2)); (refine Ev.of rfl ?_; first | exact fun _ => ⟨⟩ | exact id | exact And.right | exact And.left | exact (·.1.2) | exact (·.1.1) | exact (·.1.1.1) | exact (·.1.1.2)))
    | (apply Q_not; (refine Ev.of rfl ?_; first | exact fun _ => ⟨⟩ | exact id | exact And.right | exact And.left | exact (·.1.2) | exact (·.1.1) | exact (·.1.1.1) | exact (·.1.1.2)))
    | (apply Q_lenm TYok; (refine Ev.of rfl ?_; first | exact fun _ => ⟨⟩ | exact id | exact And.right | exact And.left | exact (·.1.2) | exact (·.1.1) | exact (·.1.1.1) | exact (·.1.1.2)); exact rfl; exact rfl)
    | (apply Q_lend TYok; (refine Ev.of rfl ?_; first | exact fun _ => ⟨⟩ | exact id | exact And.right | exact And.left | exact (·.1.2) | exact (·.1.1) | exact (·.1.1.1) | exact (·.1.1.2)); exact rfl; exact rfl)
    | (apply Q_lenom TYok; (refine Ev.of rfl ?_; first | exact fun _ => ⟨⟩ | exact id | exact And.right | exact And.left | exact (·.1.2) | exact (·.1.1) | exact (·.1.1.1) | exact (·.1.1.2)); exact rfl; exact rfl; exact rfl)
    | (apply Q_len TYok; (refine Ev.of rfl ?_; first | exact fun _ => ⟨⟩ | exact id | exact And.right | exact And.left | exact (·.1.2) | exact (·.1.1) | exact (·.1.1.1) | exact (·.1.1.2)); exact rfl; exact rfl; exact rfl)
    | (apply Q_len0 TYok; (refine Ev.of rfl ?_; first | exact fun _ => ⟨⟩ | exact id | exact And.right | exact And.left | exact (·.1.2) | exact (·.1.1) | exact (·.1.1.1) | exact (·.1.1.2)); exact rfl; exact rfl)
    | (apply Q_lens TYok; (refine Ev.of rfl ?_; first | exact fun _ => ⟨⟩ | exact id | exact And.right | exact And.left | exact (·.1.2) | exact (·.1.1) | exact (·.1.1.1) | exact (·.1.1.2)); exact rfl; exact rfl)
    | (apply Q_binS; (refine Ev.of rfl ?_; first | exact fun _ => ⟨⟩ | exact id | exact And.right | exact And.left | exact (·.1.2) | exact (·.1.1) | exact (·.1.1.1) | exact (·.1.1.2)); (refine Ev.of rfl ?_; first | exact fun _ => ⟨⟩ | exact id | exact And.right | exact And.left | exact (·.1.2) | exact (·.1.1) | exact (·.1.1.1) | exact (·.1.1.2)); exact rfl)
    | (apply Q_binB TYok; (refine Ev.of rfl ?_; first | exact fun _ => ⟨⟩ | exact id | exact And.right | exact And.left | exact (·.1.2) | exact (·.1.1) | exact (·.1.1.1) | exact (·.1.1.2)); (refine Ev.of rfl ?_; first | exact fun _ => ⟨⟩ | exact id | exact And.right | exact And.left | exact (·.1.2) | exact (·.1.1) | exact (·.1.1.1) | exact (·.1.1.2)); exact rfl; exact rfl; exact rfl)
    | (apply Q_convI TYok; exact rfl; exact rfl; exact rfl; exact rfl; (refine Ev.of rfl ?_; first | exact fun _ => ⟨⟩ | exact id | exact And.right | exact And.left | exact (·.1.2) | exact (·.1.1) | exact (·.1.1.1) | exact (·.1.1.2)); (first | omega | (constructor <;> omega)))
    | (apply Q_conv TYok; exact rfl; exact rfl; exact rfl; exact rfl; (refine Ev.of rfl ?_; first | exact fun _ => ⟨⟩ | exact id | exact And.right | exact And.left | exact (·.1.2) | exact (·.1.1) | exact (·.1.1.1) | exact (·.1.1.2)))
    | (apply Q_indexs TYok; (refine Ev.of rfl ?_; first | exact fun _ => ⟨⟩ | exact id | exact And.right | exact And.left | exact (·.1.2) | exact (·.1.1) | exact (·.1.1.1) | exact (·.1.1.2)); (refine Ev.of rfl ?_; first | exact fun _ => ⟨⟩ | exact id | exact And.right | exact And.left | exact (·.1.2) | exact (·.1.1) | exact (·.1.1.1) | exact (·.1.1.2)); exact rfl; exact rfl; (intro hg; first | exact strAt (by first | omega | (simp at hg; omega) | (simp at hg; done) | fail) | (refine strAt ?_; simp at hg; first | exact Int.ofNat_lt.1 hg | exact Int.ofNat_lt.1 hg.1 | exact Int.ofNat_lt.1 hg.2)))
    | (apply Q_cat; (refine Ev.of rfl ?_; first | exact fun _ => ⟨⟩ | exact id | exact And.right | exact And.left | exact (·.1.2) | exact (·.1.1) | exact (·.1.1.1) | exact (·.1.1.2)); (refine Ev.of rfl ?_; first | exact fun _ => ⟨⟩ | exact id | exact And.right | exact And.left | exact (·.1.2) | exact (·.1.1) | exact (·.1.1.1) | exact (·.1.1.2)); (intro hg; first | omega | (simp; omega) | (simp at hg ⊢; omega)))); exact rfl)
    | (apply S_isnil TYok; exact rfl; exact rfl; exact rfl; (refine Ev.of rfl ?_; first | exact fun _ => ⟨⟩ | exact id | exact And.right | exact And.left | exact (·.1.2) | exact (·.1.1) | exact (·.1.1.1) | exact (·.1.1.2)); intro bn hnil)
    | (apply RG.gT; exact rfl; exact rfl; (first | assumption | decide))
    | (apply RG.gF; exact rfl; exact rfl; (first | assumption | decide); exact rfl)
    | (refine W.cond (by refine Ev.of rfl ?_; first | exact fun _ => ⟨⟩ | exact id | exact And.right | exact And.left | exact (·.1.2) | exact (·.1.1) | exact (·.1.1.1) | exact (·.1.1.2)) (fun hb => ?_) (fun hb => ?_) <;> (try simp at hb) <;> (try (exfalso; omega))))
  apply W.loopP (σ := Nat) 47 [0] (fun k => k ≤ s.length ∧ (∀ j, j < k → digitF (nth s j) = true) ∧ ((numV (s.take k) : Nat) : Int) ≤ 10000000000000009) (fun k => [(4, vI (numV (s.take k) : Nat)), (5, vI k)]) (fun _ => []) (fun k => s.length - k) (0)
  case hp => repeat (first | exact Pick.nil | apply Pick.cons rfl)
  case h0 =>
    refine ⟨by simp [numV], ?_⟩
    refine Le.mkR rfl rfl ?_ ?_ ?_ rfl
    · repeat (first | exact SubR.nil | apply SubR.p rfl (by first | rfl | (simp; done) | (congr 3; omega) | (congr 3; simp; omega)) | apply SubR.s rfl rfl rfl | apply SubR.a rfl rfl rfl | apply SubR.t rfl rfl | apply SubR.m rfl rfl rfl | apply SubR.i rfl rfl rfl rfl rfl)
    · repeat (first | exact SubR.nil | apply SubR.p rfl (by first | rfl | (simp; done) | (congr 3; omega) | (congr 3; simp; omega)) | apply SubR.s rfl rfl rfl | apply SubR.a rfl rfl rfl | apply SubR.t rfl rfl | apply SubR.m rfl rfl rfl | apply SubR.i rfl rfl rfl rfl rfl)
    · repeat (first | exact SubBR.nil | apply SubBR.cons rfl (by first | rfl | (simp only [List.map_append, List.map_replicate, List.map_cons, List.map_nil]; rfl) | (simp only [List.map_append, List.map_cons, List.map_nil, List.append_assoc, List.cons_append, List.nil_append]; rfl) | (simp; done)))
  case round =>
    rintro k ⟨h1, h2, h3⟩
    apply W.norm (by repeat (first | exact App.nil | apply App.cons))
    by_cases hk : k < s.length
    · have hst : digitF (nth s k) = true → ((48 : Int) ≤ ((nth s k).toNat : Int) ∧ ((nth s k).toNat : Int) ≤ 57) ∧ ((numV (s.take (k + 1)) : Nat) : Int) = 10 * ((numV (s.take k) : Nat) : Int) + ((nth s k).toNat : Int) - 48 := fun hd => by
        have := digit_nat hd
        rw [numV_take hk, byt_nth]; omega
      have hpos : (0 : Int) ≤ ((nth s k).toNat : Int) ∧ ((nth s k).toNat : Int) ≤ 255 := by
        have := (nth s k).toNat_lt; omega
      repeat' (first
        | apply RG.nil
        | apply Lex.nil
        | apply Then.n
        | apply Then.r
        | apply Then.x
        | apply InBlock.n
        | apply InBlock.r
        | apply InBlock.hit
        | (apply InBlock.miss; exact rfl)
        | apply W.seq
        | apply W.region
        | apply W.block
        | apply W.skip
        | apply W.ret
        | apply W.exit
        | ((first | apply U_ | (apply Ug_; exact rfl; exact rfl) | (apply Ugq_; exact rfl; exact rfl)); (first
    | (apply Q_move; (refine Ev.of rfl ?_; first | exact fun _ => ⟨⟩ | exact id | exact And.right | exact And.left | exact (·.1.2) | exact (·.1.1) | exact (·.1.1.1) | exact (·.1.1.2)))
    | (apply Q_assign; (refine Ev.of rfl ?_; first | exact fun _ => ⟨⟩ | exact id | exact And.right | exact And.left | exact (·.1.2) | exact (·.1.1) | exact (·.1.1.1) | exact (·.1.1.2)))
    | (apply Q_add; (refine Ev.of rfl ?_; first | exact fun _ => ⟨⟩ | exact id | exact And.right | exact And.left | exact (·.1.2) | exact (·.1.1) | exact (·.1.1.1) | exact (·.1.1.2)); (refine Ev.of rfl ?_; first | exact fun _ => ⟨⟩ | exact id | exact And.right | exact And.left | exact (·.1.2) | exact (·.1.1) | exact (·.1.1.1) | exact (·.1.1.2)); (first | omega | (constructor <;> omega)))
    | (apply Q_sub; (refine Ev.of rfl ?_; first | exact fun _ => ⟨⟩ | exact id | exact And.right | exact And.left | exact (·.1.2) | exact (·.1.1) | exact (·.1.1.1) | exact (·.1.1.2)); (refine Ev.of rfl ?_; first | exact fun _ => ⟨⟩ | exact id | exact And.right | exact And.left | exact (·.1.2) | exact (·.1.1) | exact (·.1.1.1) | exact (·.1.1.2)); (first | omega | (constructor <;> omega)))
    | (apply Q_mul; (refine Ev.of rfl ?_; first | exact fun _ => ⟨⟩ | exact id | exact And.right | exact And.left | exact (·.1.2) | exact (·.1.1) | exact (·.1.1.1) | exact (·.1.1.2)); (refine Ev.of rfl ?_; first | exact fun _ => ⟨⟩ | exact id | exact And.right | exact And.left | exact (·.1.2) | exact (·.1.1) | exact (·.1.1.1) | exact (·.1.1.2)); (first | omega | (constructor <;> omega)))
    | (apply Q_add8; (refine Ev.of rfl ?_; first | exact fun _ => ⟨⟩ | exact id | exact And.right | exact And.left | exact (·.1.2) | exact (·.1.1) | exact (·.1.1.1) | exact (·.1.1.2)); (refine Ev.of rfl ?_; first | exact fun _ => ⟨⟩ | exact id | exact And.right | exact And.left | exact (·.1.2) | exact (·.1.1) | exact (·.1.1.1) | exact (·.1.1.2)); (first | omega | (constructor <;> omega)))
    | (apply Q_sub8; (refine Ev.of rfl ?_; first | exact fun _ => ⟨⟩ | exact id | exact And.right | exact And.left | exact (·.1.2) | exact (·.1.1) | exact (·.1.1.1) | exact (·.1.1.2)); (refine Ev.of rfl ?_; first | exact fun _ => ⟨⟩ | exact id | exact And.right | exact And.left | exact (·.1.2) | exact (·.1.1) | exact (·.1.1.1) | exact (·.1.1.2)); (first | omega | (constructor <;> omega)))
    | (apply Q_bin; (refine Ev.of rfl ?_; first | exact fun _ => ⟨⟩ | exact id | exact And.right | exact And.left | exact (·.1.2) | exact (·.1.1) | exact (·.1.1.1) | exact (·.1.1.2)); (refine Ev.of rfl ?_; first | exact fun _ => ⟨⟩ | exact id | exact And.right | exact And.left | exact (·.1.2) | exact (·.1.1) | exact (·.1.1.1) | exact (·.1.1.2)); exact rfl)
    | (apply Q_or; (refine Ev.of rfl ?_; first | exact fun _ => ⟨⟩ | exact id | exact And.right | exact And.left | exact (·.1.2) | exact (·.1.1) | exact (·.1.1.1) | exact (·.1.1.2)); (refine Ev.of rfl ?_; first | exact fun _ => ⟨⟩ | exact id | exact And.right | exact And.left | exact (·.1.2) | exact (·.1.1) | exact (·.1.1.1) | exact (·.1.1.2)))
    | (apply Q_and; (refine Ev.of rfl ?_; first | exact fun _ => ⟨⟩ | exact id | exact And.right | exact And.left | exact (·.1.2) | exact (·.1.1) | exact (·.1.1.1) | exact (·.1.1.2)); (refine Ev.of rfl ?_; first | exact fun _ => ⟨⟩ | exact id | exact And.right | exact And.left | exact (·.1.2) | exact (·.1.1) | exact (·.1.1.1) | exact (·.1.1.2)))
    | (apply Q_not; (refine Ev.of rfl ?_; first | exact fun _ => ⟨⟩ | exact id | exact And.right | exact And.left | exact (·.1.2) | exact (·.1.1) | exact (·.1.1.1) | exact (·.1.1.2)))
    | (apply Q_lenm TYok; (refine Ev.of rfl ?_; first | exact fun _ => ⟨⟩ | exact id | exact And.right | exact And.left | exact (·.1.2) | exact (·.1.1) | exact (·.1.1.1) | exact (·.1.1.2)); exact rfl; exact rfl)
    | (apply Q_lend TYok; (refine Ev.of rfl ?_; first | exact fun _ => ⟨⟩ | exact id | exact And.right | exact And.left | exact (·.1.2) | exact (·.1.1) | exact (·.1.1.1) | exact (·.1.1.2)); exact rfl; exact rfl)
    | (apply Q_lenom TYok; (refine Ev.of rfl ?_; first | exact fun _ => ⟨⟩ | exact id | exact And.right | exact And.left | exact (·.1.2) | exact (·.1.1) | exact (·.1.1.1) | exact (·.1.1.2)); exact rfl; exact rfl; exact rfl)
    | (apply Q_len TYok; (refine Ev.of rfl ?_; first | exact fun _ => ⟨⟩ | exact id | exact And.right | exact And.left | exact (·.1.2) | exact (·.1.1) | exact (·.1.1.1) | exact (·.1.1.2)); exact rfl; exact rfl; exact rfl)
    | (apply Q_len0 TYok; (refine Ev.of rfl ?_; first | exact fun _ => ⟨⟩ | exact id | exact And.right | exact And.left | exact (·.1.2) | exact (·.1.1) | exact (·.1.1.1) | exact (·.1.1.2)); exact rfl; exact rfl)
    | (apply Q_lens TYok; (refine Ev.of rfl ?_; first | exact fun _ => ⟨⟩ | exact id | exact And.right | exact And.left | exact (·.1.2) | exact (·.1.1) | exact (·.1.1.1) | exact (·.1.1.2)); exact rfl; exact rfl)
    | (apply Q_binS; (refine Ev.of rfl ?_; first | exact fun _ => ⟨⟩ | exact id | exact And.right | exact And.left | exact (·.1.2) | exact (·.1.1) | exact (·.1.1.1) | exact (·.1.1.2)); (refine Ev.of rfl ?_; first | exact fun _ => ⟨⟩ | exact id | exact And.right | exact And.left | exact (·.1.2) | exact (·.1.1) | exact (·.1.1.1) | exact (·.1.1.2)); exact rfl)
    | (apply Q_binB TYok; (refine Ev.of rfl ?_; first | exact fun _ => ⟨⟩ | exact id | exact And.right | exact And.left | exact (·.1.2) | exact (·.1.1) | exact (·.1.1.1) | exact (·.1.1.2)); (refine Ev.of rfl ?_; first | exact fun _ => ⟨⟩ | exact id | exact And.right | exact And.left | exact (·.1.2) | exact (·.1.1) | exact (·.1.1.1) | exact (·.1.1.2)); exact rfl; exact rfl; exact rfl)
    | (apply Q_convI TYok; exact rfl; exact rfl; exact rfl; exact rfl; (refine Ev.of rfl ?_; first | exact fun _ => ⟨⟩ | exact id | exact And.right | exact And.left | exact (·.1.2) | exact (·.1.1) | exact (·.1.1.1) | exact (·.1.1.2)); (first | omega | (constructor <;> omega)))
    | (apply Q_conv TYok; exact rfl; exact rfl; exact rfl; exact rfl; (refine Ev.of rfl ?_; first | exact fun _ => ⟨⟩ | exact id | exact And.right | exact And.left | exact (·.1.2) | exact (·.1.1) | exact (·.1.1.1) | exact (·.1.1.2)))
    | (apply Q_indexs TYok; (refine Ev.of rfl ?_; first | exact fun _ => ⟨⟩ | exact id | exact And.right | exact And.left | exact (·.1.2) | exact (·.1.1) | exact (·.1.1.1) | exact (·.1.1.2)); (refine Ev.of rfl ?_; first | exact fun _ => ⟨⟩ | exact id | exact And.right | exact And.left | exact (·.1.2) | exact (·.1.1) | exact (·.1.1.1) | exact (·.1.1.2)); exact rfl; exact rfl; (intro hg; first | exact strAt (by first | omega | (simp at hg; omega) | (simp at hg; done) | fail) | (refine strAt ?_; simp at hg; first | exact Int.ofNat_lt.1 hg | exact Int.ofNat_lt.1 hg.1 | exact Int.ofNat_lt.1 hg.2)))
    | (apply Q_cat; (refine Ev.of rfl ?_; first | exact fun _ => ⟨⟩ | exact id | exact And.right | exact And.left | exact (·.1.2) | exact (·.1.1) | exact (·.1.1.1) | exact (·.1.1.2)); (refine Ev.of rfl ?_; first | exact fun _ => ⟨⟩ | exact id | exact And.right | exact And.left | exact (·.1.2) | exact (·.1.1) | exact (·.1.1.1) | exact (·.1.1.2)); (intro hg; first | omega | (simp; omega) | (simp at hg ⊢; omega)))
    | (apply Q_call (rdigit_ok (nth s k)); (repeat (first | exact EvL.nil | refine EvL.cons (by refine Ev.of rfl ?_; first | exact fun _ => ⟨⟩ | exact id | exact And.right | exact And.left | exact (·.1.2) | exact (·.1.1) | exact (·.1.1.1) | exact (·.1.1.2)) rfl (by first | exact PSub.rfl' | exact PSub.nil' | (refine PSub.of_eq ?_; simp only [List.map_append, List.map_cons, List.map_nil, List.nil_append]; rfl)) ?_)); exact rfl)); exact rfl)
        | (apply S_isnil TYok; exact rfl; exact rfl; exact rfl; (refine Ev.of rfl ?_; first | exact fun _ => ⟨⟩ | exact id | exact And.right | exact And.left | exact (·.1.2) | exact (·.1.1) | exact (·.1.1.1) | exact (·.1.1.2)); intro bn hnil)
        | (apply RG.gT; exact rfl; exact rfl; (first | assumption | decide))
        | (apply RG.gF; exact rfl; exact rfl; (first | assumption | decide); exact rfl)
        | (refine W.cond (by refine Ev.of rfl ?_; first | exact fun _ => ⟨⟩ | exact id | exact And.right | exact And.left | exact (·.1.2) | exact (·.1.1) | exact (·.1.1.1) | exact (·.1.1.2)) (fun hb => ?_) (fun hb => ?_) <;> (try simp at hb) <;> (try (exfalso; omega))))
      · have e : numberF s = (0, false) := number_no fun h => by
          obtain ⟨_, q2, _, _, q5⟩ := numOk_iff.1 h
          rcases hb with hb | hb
          · have : nth s k ∈ s := by unfold nth; simp [List.getD, hk]
            rw [List.all_eq_true.1 q2 _ this] at hb
            cases hb
          · have := numV_take_le s k; omega
        rw [e]
        exact Fin.ret (by repeat (first | exact ResL.nil | refine ResL.cons rfl rfl (by first | exact PSub.rfl' | exact PSub.nil' | (refine PSub.of_eq ?_; simp; done) | (refine PSub.of_eq ?_; simp only [List.map_append, List.map_cons, List.map_nil]; rfl) | (refine PSub.of_eq ?_; simp; rfl)) ?_))
      · obtain ⟨g1, g3⟩ := hst hb.1
        refine ⟨k + 1, ⟨by omega, fun j hj => ?_, by omega⟩, ?_, ?_⟩
        · by_cases e : j = k
          · rw [e]; exact hb.1
          · exact h2 j (by omega)
        · rw [g3]
          refine Le.mkR rfl rfl ?_ ?_ ?_ rfl
          · repeat (first | exact SubR.nil | apply SubR.p rfl (by first | rfl | (simp; done) | (congr 3; omega) | (congr 3; simp; omega)) | apply SubR.s rfl rfl rfl | apply SubR.a rfl rfl rfl | apply SubR.t rfl rfl | apply SubR.m rfl rfl rfl | apply SubR.i rfl rfl rfl rfl rfl)
          · repeat (first | exact SubR.nil | apply SubR.p rfl (by first | rfl | (simp; done) | (congr 3; omega) | (congr 3; simp; omega)) | apply SubR.s rfl rfl rfl | apply SubR.a rfl rfl rfl | apply SubR.t rfl rfl | apply SubR.m rfl rfl rfl | apply SubR.i rfl rfl rfl rfl rfl)
          · repeat (first | exact SubBR.nil | apply SubBR.cons rfl (by first | rfl | (simp only [List.map_append, List.map_replicate, List.map_cons, List.map_nil]; rfl) | (simp only [List.map_append, List.map_cons, List.map_nil, List.append_assoc, List.cons_append, List.nil_append]; rfl) | (simp; done)))
        · (try simp only); omega
    · obtain rfl : k = s.length := by omega
      have hn : s.take s.length = s := List.take_length
      have hd : s.all digitF = true := by
        rw [List.all_eq_true]
        intro x hx
        obtain ⟨j, hj, rfl⟩ := List.getElem_of_mem hx
        have := h2 j hj
        unfold nth at this
        simpa [List.getD, hj] using this
      by_cases h0 : s = []
      · subst h0
        repeat' (first
          | apply RG.nil
          | apply Lex.nil
          | apply Then.n
          | apply Then.r
          | apply Then.x
          | apply InBlock.n
          | apply InBlock.r
          | apply InBlock.hit
          | (apply InBlock.miss; exact rfl)
          | apply W.seq
          | apply W.region
          | apply W.block
          | apply W.skip
          | apply W.ret
          | apply W.exit
          | ((first | apply U_ | (apply Ug_; exact rfl; exact rfl) | (apply Ugq_; exact rfl; exact rfl)); (first
    | (apply Q_move; (refine Ev.of rfl ?_; first | exact fun _ => ⟨⟩ | exact id | exact And.right | exact And.left | exact (·.1.2) | exact (·.1.1) | exact (·.1.1.1) | exact (·.1.1.2)))
    | (apply Q_assign; (refine Ev.of rfl ?_; first | exact fun _ => ⟨⟩ | exact id | exact And.right | exact And.left | exact (·.1.2) | exact (·.1.1) | exact (·.1.1.1) | exact (·.1.1.2)))
    | (apply Q_add; (refine Ev.of rfl ?_; first | exact fun _ => ⟨⟩ | exact id | exact And.right | exact And.left | exact (·.1.2) | exact (·.1.1) | exact (·.1.1.1) | exact (·.1.1.2)); (refine Ev.of rfl ?_; first | exact fun _ => ⟨⟩ | exact id | exact And.right | exact And.left | exact (·.1.2) | exact (·.1.1) | exact (·.1.1.1) | exact (·.1.1.2)); (first | omega | (constructor <;> omega)))
    | (apply Q_sub; (refine Ev.of rfl ?_; first | exact fun _ => ⟨⟩ | exact id | exact And.right | exact And.left | exact (·.1.2) | exact (·.1.1) | exact (·.1.1.1) | exact (·.1.1.2)); (refine Ev.of rfl ?_; first | exact fun _ => ⟨⟩ | exact id | exact And.right | exact And.left | exact (·.1.2) | exact (·.1.1) | exact (·.1.1.1) | exact (·.1.1.2)); (first | omega | (constructor <;> omega)))
    | (apply Q_mul; (refine Ev.of rfl ?_; first | exact fun _ => ⟨⟩ | exact id | exact And.right | exact And.left | exact (·.1.2) | exact (·.1.1) | exact (·.1.1.1) | exact (·.1.1.2)); (refine Ev.of rfl ?_; first | exact fun _ => ⟨⟩ | exact id | exact And.right | exact And.left | exact (·.1.2) | exact (·.1.1) | exact (·.1.1.1) | exact (·.1.1.2)); (first | omega | (constructor <;> omega)))
    | (apply Q_add8; (refine Ev.of rfl ?_; first | exact fun _ => ⟨⟩ | exact id | exact And.right | exact And.left | exact (·.1.2) | exact (·.1.1) | exact (·.1.1.1) | exact (·.1.1.2)); (refine Ev.of rfl ?_; first | exact fun _ => ⟨⟩ | exact id | exact And.right | exact And.left | exact (·.1.2) | exact (·.1.1) | exact (·.1.1.1) | exact (·.1.1.2)); (first | omega | (constructor <;> omega)))
    | (apply Q_sub8; (refine Ev.of rfl ?_; first | exact fun _ => ⟨⟩ | exact id | exact And.right | exact And.left | exact (·.1.2) | exact (·.1.1) | exact (·.1.1.1) | exact (·.1.1.2)); (refine Ev.of rfl ?_; first | exact fun _ => ⟨⟩ | exact id | exact And.right | exact And.left | exact (·.1.2) | exact (·.1.1) | exact (·.1.1.1) | exact (·.1.1.2)); (first | omega | (constructor <;> omega)))
    | (apply Q_bin; (refine Ev.of rfl ?_; first | exact fun _ => ⟨⟩ | exact id | exact And.right | exact And.left | exact (·.1.2) | exact (·.1.1) | exact (·.1.1.1) | exact (·.1.1.2)); (refine Ev.of rfl ?_; first | exact fun _ => ⟨⟩ | exact id | exact And.right | exact And.left | exact (·.1.2) | exact (·.1.1) | exact (·.1.1.1) | exact (·.1.1.2)); exact rfl)
    | (apply Q_or; (refine Ev.of rfl ?_; first | exact fun _ => ⟨⟩ | exact id | exact And.right | exact And.left | exact (·.1.2) | exact (·.1.1) | exact (·.1.1.1) | exact (·.1.1.2)); (refine Ev.of rfl ?_; first | exact fun _ => ⟨⟩ | exact id | exact And.right | exact And.left | exact (·.1.2) | exact (·.1.1) | exact (·.1.1.1) | exact (·.1.1.2)))
    | (apply Q_and; (refine Ev.of rfl ?_; first | exact fun _ => ⟨⟩ | exact id | exact And.right | exact And.left | exact (·.1.2) | exact (·.1.1) | exact (·.1.1.1) | exact (·.1.1.2)); (refine Ev.of rfl ?_; first | exact fun _ => ⟨⟩ | exact id | exact And.right | exact And.left | exact (·.1.2) | exact (·.1.1) | exact (·.1.1.1) | exact (·.1.1.2)))
    | (apply Q_not; (refine Ev.of rfl ?_; first | exact fun _ => ⟨⟩ | exact id | exact And.right | exact And.left | exact (·.1.2) | exact (·.1.1) | exact (·.1.1.1) | exact (·.1.1.2)))
    | (apply Q_lenm TYok; (refine Ev.of rfl ?_; first | exact fun _ => ⟨⟩ | exact id | exact And.right | exact And.left | exact (·.1.2) | exact (·.1.1) | exact (·.1.1.1) | exact (·.1.1.2)); exact rfl; exact rfl)
    | (apply Q_lend TYok; (refine Ev.of rfl ?_; first | exact fun _ => ⟨⟩ | exact id | exact And.right | exact And.left | exact (·.1.2) | exact (·.1.1) | exact (·.1.1.1) | exact (·.1.1.2)); exact rfl; exact rfl)
    | (apply Q_lenom TYok; (refine Ev.of rfl ?_; first | exact fun _ => ⟨⟩ | exact id | exact And.right | exact And.left | exact (·.1.2) | exact (·.1.1) | exact (·.1.1.1) | exact (·.1.1.2)); exact rfl; exact rfl; exact rfl)
    | (apply Q_len TYok; (refine Ev.of rfl ?_; first | exact fun _ => ⟨⟩ | exact id | exact And.right | exact And.left | exact (·.1.2) | exact (·.1.1) | exact (·.1.1.1) | exact (·.1.1.2)); exact rfl; exact rfl; exact rfl)
    | (apply Q_len0 TYok; (refine Ev.of rfl ?_; first | exact fun _ => ⟨⟩ | exact id | exact And.right | exact And.left | exact (·.1.2) | exact (·.1.1) | exact (·.1.1.1) | exact (·.1.1.2)); exact rfl; exact rfl)
    | (apply Q_lens TYok; (refine Ev.of rfl ?_; first | exact fun _ => ⟨⟩ | exact id | exact And.right | exact And.left | exact (·.1.2) | exact (·.1.1) | exact (·.1.1.1) | exact (·.1.1.2)); exact rfl; exact rfl)
    | (apply Q_binS; (refine Ev.of rfl ?_; first | exact fun _ => ⟨⟩ | exact id | exact And.right | exact And.left | exact (·.1.2) | exact (·.1.1) | exact (·.1.1.1) | exact (·.1.1.2)); (refine Ev.of rfl ?_; first | exact fun _ => ⟨⟩ | exact id | exact And.right | exact And.left | exact (·.1.2) | exact (·.1.1) | exact (·.1.1.1) | exact (·.1.1.2)); exact rfl)
    | (apply Q_binB TYok; (refine Ev.of rfl ?_; first | exact fun _ => ⟨⟩ | exact id | exact And.right | exact And.left | exact (·.1.2) | exact (·.1.1) | exact (·.1.1.1) | exact (·.1.1.2)); (refine Ev.of rfl ?_; first | exact fun _ => ⟨⟩ | exact id | exact And.right | exact And.left | exact (·.1.2) | exact (·.1.1) | exact (·.1.1.1) | exact (·.1.1.2)); exact rfl; exact rfl; exact rfl)
    | (apply Q_convI TYok; exact rfl; exact rfl; exact rfl; exact rfl; (refine Ev.of rfl ?_; first | exact fun _ => ⟨⟩ | exact id | exact And.right | exact And.left | exact (·.1.2) | exact (·.1.1) | exact (·.1.1.1) | exact (·.1.1.2)); (first | omega | (constructor <;> omega)))
    | (apply Q_conv TYok; exact rfl; exact rfl; exact rfl; exact rfl; (refine Ev.of rfl ?_; first | exact fun _ => ⟨⟩ | exact id | exact And.right | exact And.left | exact (·.1.2) | exact (·.1.1) | exact (·.1.1.1) | exact (·.1.1.2)))
    | (apply Q_indexs TYok; (refine Ev.of rfl ?_; first | exact fun _ => ⟨⟩ | exact id | exact And.right | exact And.left | exact (·.1.2) | exact (·.1.1) | exact (·.1.1.1) | exact (·.1.1.2)); (refine Ev.of rfl ?_; first | exact fun _ => ⟨⟩ | exact id | exact And.right | exact And.left | exact (·.1.2) | exact (·.1.1) | exact (·.1.1.1) | exact (·.1.1.2)); exact rfl; exact rfl; (intro hg; first | exact strAt (by first | omega | (simp at hg; omega) | (simp at hg; done) | fail) | (refine strAt ?_; simp at hg; first | exact Int.ofNat_lt.1 hg | exact Int.ofNat_lt.1 hg.1 | exact Int.ofNat_lt.1 hg.2)))
    | (apply Q_cat; (refine Ev.of rfl ?_; first | exact fun _ => ⟨⟩ | exact id | exact And.right | exact And.left | exact (·.1.2) | exact (·.1.1) | exact (·.1.1.1) | exact (·.1.1.2)); (refine Ev.of rfl ?_; first | exact fun _ => ⟨⟩ | exact id | exact And.right | exact And.left | exact (·.1.2) | exact (·.1.1) | exact (·.1.1.1) | exact (·.1.1.2)); (intro hg; first | omega | (simp; omega) | (simp at hg ⊢; omega)))
    | (apply Q_call (rdigit_ok (nth [] 0)); (repeat (first | exact EvL.nil | refine EvL.cons (by refine Ev.of rfl ?_; first | exact fun _ => ⟨⟩ | exact id | exact And.right | exact And.left | exact (·.1.2) | exact (·.1.1) | exact (·.1.1.1) | exact (·.1.1.2)) rfl (by first | exact PSub.rfl' | exact PSub.nil' | (refine PSub.of_eq ?_; simp only [List.map_append, List.map_cons, List.map_nil, List.nil_append]; rfl)) ?_)); exact rfl)); exact rfl)
          | (apply S_isnil TYok; exact rfl; exact rfl; exact rfl; (refine Ev.of rfl ?_; first | exact fun _ => ⟨⟩ | exact id | exact And.right | exact And.left | exact (·.1.2) | exact (·.1.1) | exact (·.1.1.1) | exact (·.1.1.2)); intro bn hnil)
          | (apply RG.gT; exact rfl; exact rfl; (first | assumption | decide))
          | (apply RG.gF; exact rfl; exact rfl; (first | assumption | decide); exact rfl)
          | (refine W.cond (by refine Ev.of rfl ?_; first | exact fun _ => ⟨⟩ | exact id | exact And.right | exact And.left | exact (·.1.2) | exact (·.1.1) | exact (·.1.1.1) | exact (·.1.1.2)) (fun hb => ?_) (fun hb => ?_) <;> (try simp at hb) <;> (try (exfalso; omega))))
        exact Fin.ret (by repeat (first | exact ResL.nil | refine ResL.cons rfl rfl (by first | exact PSub.rfl' | exact PSub.nil' | (refine PSub.of_eq ?_; simp; done) | (refine PSub.of_eq ?_; simp only [List.map_append, List.map_cons, List.map_nil]; rfl) | (refine PSub.of_eq ?_; simp; rfl)) ?_))
      have hpos := List.length_pos_iff.2 h0
      repeat' (first
        | apply RG.nil
        | apply Lex.nil
        | apply Then.n
        | apply Then.r
        | apply Then.x
        | apply InBlock.n
        | apply InBlock.r
        | apply InBlock.hit
        | (apply InBlock.miss; exact rfl)
        | apply W.seq
        | apply W.region
        | apply W.block
        | apply W.skip
        | apply W.ret
        | apply W.exit
        | ((first | apply U_ | (apply Ug_; exact rfl; exact rfl) | (apply Ugq_; exact rfl; exact rfl)); (first
    | (apply Q_move; (refine Ev.of rfl ?_; first | exact fun _ => ⟨⟩ | exact id | exact And.right | exact And.left | exact (·.1.2) | exact (·.1.1) | exact (·.1.1.1) | exact (·.1.1.2)))
    | (apply Q_assign; (refine Ev.of rfl ?_; first | exact fun _ => ⟨⟩ | exact id | exact And.right | exact And.left | exact (·.1.2) | exact (·.1.1) | exact (·.1.1.1) | exact (·.1.1.2)))
    | (apply Q_add; (refine Ev.of rfl ?_; first | exact fun _ => ⟨⟩ | exact id | exact And.right | exact And.left | exact (·.1.2) | exact (·.1.1) | exact (·.1.1.1) | exact (·.1.1.2)); (refine Ev.of rfl ?_; first | exact fun _ => ⟨⟩ | exact id | exact And.right | exact And.left | exact (·.1.2) | exact (·.1.1) | exact (·.1.1.1) | exact (·.1.1.2)); (first | omega | (constructor <;> omega)))
    | (apply Q_sub; (refine Ev.of rfl ?_; first | exact fun _ => ⟨⟩ | exact id | exact And.right | exact And.left | exact (·.1.2) | exact (·.1.1) | exact (·.1.1.1) | exact (·.1.1.2)); (refine Ev.of rfl ?_; first | exact fun _ => ⟨⟩ | exact id | exact And.right | exact And.left | exact (·.1.2) | exact (·.1.1) | exact (·.1.1.1) | exact (·.1.1.2)); (first | omega | (constructor <;> omega)))
    | (apply Q_mul; (refine Ev.of rfl ?_; first | exact fun _ => ⟨⟩ | exact id | exact And.right | exact And.left | exact (·.1.2) | exact (·.1.1) | exact (·.1.1.1) | exact (·.1.1.2)); (refine Ev.of rfl ?_; first | exact fun _ => ⟨⟩ | exact id | exact And.right | exact And.left | exact (·.1.2) | exact (·.1.1) | exact (·.1.1.1) | exact (·.1.1.2)); (first | omega | (constructor <;> omega)))
    | (apply Q_add8; (refine Ev.of rfl ?_; first | exact fun _ => ⟨⟩ | exact id | exact And.right | exact And.left | exact (·.1.2) | exact (·.1.1) | exact (·.1.1.1) | exact (·.1.1.2)); (refine Ev.of rfl ?_; first | exact fun _ => ⟨⟩ | exact id | exact And.right | exact And.left | exact (·.1.2) | exact (·.1.1) | exact (·.1.1.1) | exact (·.1.1.2)); (first | omega | (constructor <;> omega)))
    | (apply Q_sub8; (refine Ev.of rfl ?_; first | exact fun _ => ⟨⟩ | exact id | exact And.right | exact And.left | exact (·.1.2) | exact (·.1.1) | exact (·.1.1.1) | exact (·.1.1.2)); (refine Ev.of rfl ?_; first | exact fun _ => ⟨⟩ | exact id | exact And.right | exact And.left | exact (·.1.2) | exact (·.1.1) | exact (·.1.1.1) | exact (·.1.1.2)); (first | omega | (constructor <;> omega)))
    | (apply Q_bin; (refine Ev.of rfl ?_; first | exact fun _ => ⟨⟩ | exact id | exact And.right | exact And.left | exact (·.1.2) | exact (·.1.1) | exact (·.1.1.1) | exact (·.1.1.2)); (refine Ev.of rfl ?_; first | exact fun _ => ⟨⟩ | exact id | exact And.right | exact And.left | exact (·.1.2) | exact (·.1.1) | exact (·.1.1.1) | exact (·.1.1.2)); exact rfl)
    | (apply Q_or; (refine Ev.of rfl ?_; first | exact fun _ => ⟨⟩ | exact id | exact And.right | exact And.left | exact (·.1.2) | exact (·.1.1) | exact (·.1.1.1) | exact (·.1.1.2)); (refine Ev.of rfl ?_; first | exact fun _ => ⟨⟩ | exact id | exact And.right | exact And.left | exact (·.1.2) | exact (·.1.1) | exact (·.1.1.1) | exact (·.1.1.2)))
    | (apply Q_and; (refine Ev.of rfl ?_; first | exact fun _ => ⟨⟩ | exact id | exact And.right | exact And.left | exact (·.1.2) | exact (·.1.1) | exact (·.1.1.1) | exact (·.1.1.2)); (refine Ev.of rfl ?_; first | exact fun _ => ⟨⟩ | exact id | exact And.right | exact And.left | exact (·.1.2) | exact (·.1.1) | exact (·.1.1.1) | exact (·.1.1.2)))
    | (apply Q_not; (refine Ev.of rfl ?_; first | exact fun _ => ⟨⟩ | exact id | exact And.right | exact And.left | exact (·.1.2) | exact (·.1.1) | exact (·.1.1.1) | exact (·.1.1.2)))
    | (apply Q_lenm TYok; (refine Ev.of rfl ?_; first | exact fun _ => ⟨⟩ | exact id | exact And.right | exact And.left | exact (·.1.2) | exact (·.1.1) | exact (·.1.1.1) | exact (·.1.1.2)); exact rfl; exact rfl)
    | (apply Q_lend TYok; (refine Ev.of rfl ?_; first | exact fun _ => ⟨⟩ | exact id | exact And.right | exact And.left | exact (·.1.2) | exact (·.1.1) | exact (·.1.1.1) | exact (·.1.1.2)); exact rfl; exact rfl)
    | (apply Q_lenom TYok; (refine Ev.of rfl ?_; first | exact fun _ => ⟨⟩ | exact id | exact And.right | exact And.left | exact (·.1.2) | exact (·.1.1) | exact (·.1.1.1) | exact (·.1.1.2)); exact rfl; exact rfl; exact rfl)
    | (apply Q_len TYok; (refine Ev.of rfl ?_; first | exact fun _ => ⟨⟩ | exact id | exact And.right | exact And.left | exact (·.1.2) | exact (·.1.1) | exact (·.1.1.1) | exact (·.1.1.2)); exact rfl; exact rfl; exact rfl)
    | (apply Q_len0 TYok; (refine Ev.of rfl ?_; first | exact fun _ => ⟨⟩ | exact id | exact And.right | exact And.left | exact (·.1.2) | exact (·.1.1) | exact (·.1.1.1) | exact (·.1.1.2)); exact rfl; exact rfl)
    | (apply Q_lens TYok; (refine Ev.of rfl ?_; first | exact fun _ => ⟨⟩ | exact id | exact And.right | exact And.left | exact (·.1.2) | exact (·.1.1) | exact (·.1.1.1) | exact (·.1.1.2)); exact rfl; exact rfl)
    | (apply Q_binS; (refine Ev.of rfl ?_; first | exact fun _ => ⟨⟩ | exact id | exact And.right | exact And.left | exact (·.1.2) | exact (·.1.1) | exact (·.1.1.1) | exact (·.1.1.2)); (refine Ev.of rfl ?_; first | exact fun _ => ⟨⟩ | exact id | exact And.right | exact And.left | exact (·.1.2) | exact (·.1.1) | exact (·.1.1.1) | exact (·.1.1.2)); exact rfl)
    | (apply Q_binB TYok; (refine Ev.of rfl ?_; first | exact fun _ => ⟨⟩ | exact id | exact And.right | exact And.left | exact (·.1.2) | exact (·.1.1) | exact (·.1.1.1) | exact (·.1.1.2)); (refine Ev.of rfl ?_; first | exact fun _ => ⟨⟩ | exact id | exact And.right | exact And.left | exact (·.1.2) | exact (·.1.1) | exact (·.1.1.1) | exact (·.1.1.2)); exact rfl; exact rfl; exact rfl)
    | (apply Q_convI TYok; exact rfl; exact rfl; exact rfl; exact rfl; (refine Ev.of rfl ?_; first | exact fun _ => ⟨⟩ | exact id | exact And.right | exact And.left | exact (·.1.2) | exact (·.1.1) | exact (·.1.1.1) | exact (·.1.1.2)); (first | omega | (constructor <;> omega)))
    | (apply Q_conv TYok; exact rfl; exact rfl; exact rfl; exact rfl; (refine Ev.of rfl ?_; first | exact fun _ => ⟨⟩ | exact id | exact And.right | exact And.left | exact (·.1.2) | exact (·.1.1) | exact (·.1.1.1) | exact (·.1.1.2)))
    | (apply Q_indexs TYok; (refine Ev.of rfl ?_; first | exact fun _ => ⟨⟩ | exact id | exact And.right | exact And.left | exact (·.1.2) | exact (·.1.1) | exact (·.1.1.1) | exact (·.1.1.2)); (refine Ev.of rfl ?_; first | exact fun _ => ⟨⟩ | exact id | exact And.right | exact And.left | exact (·.1.2) | exact (·.1.1) | exact (·.1.1.1) | exact (·.1.1.2)); exact rfl; exact rfl; (intro hg; first | exact strAt (by first | omega | (simp at hg; omega) | (simp at hg; done) | fail) | (refine strAt ?_; simp at hg; first | exact Int.ofNat_lt.1 hg | exact Int.ofNat_lt.1 hg.1 | exact Int.ofNat_lt.1 hg.2)))
    | (apply Q_cat; (refine Ev.of rfl ?_; first | exact fun _ => ⟨⟩ | exact id | exact And.right | exact And.left | exact (·.1.2) | exact (·.1.1) | exact (·.1.1.1) | exact (·.1.1.2)); (refine Ev.of rfl ?_; first | exact fun _ => ⟨⟩ | exact id | exact And.right | exact And.left | exact (·.1.2) | exact (·.1.1) | exact (·.1.1.1) | exact (·.1.1.2)); (intro hg; first | omega | (simp; omega) | (simp at hg ⊢; omega)))
    | (apply Q_call (rdigit_ok (nth s s.length)); (repeat (first | exact EvL.nil | refine EvL.cons (by refine Ev.of rfl ?_; first | exact fun _ => ⟨⟩ | exact id | exact And.right | exact And.left | exact (·.1.2) | exact (·.1.1) | exact (·.1.1.1) | exact (·.1.1.2)) rfl (by first | exact PSub.rfl' | exact PSub.nil' | (refine PSub.of_eq ?_; simp only [List.map_append, List.map_cons, List.map_nil, List.nil_append]; rfl)) ?_)); exact rfl)); exact rfl)
        | (apply S_isnil TYok; exact rfl; exact rfl; exact rfl; (refine Ev.of rfl ?_; first | exact fun _ => ⟨⟩ | exact id | exact And.right | exact And.left | exact (·.1.2) | exact (·.1.1) | exact (·.1.1.1) | exact (·.1.1.2)); intro bn hnil)
        | (apply RG.gT; exact rfl; exact rfl; (first | assumption | decide))
        | (apply RG.gF; exact rfl; exact rfl; (first | assumption | decide); exact rfl)
        | (refine W.cond (by refine Ev.of rfl ?_; first | exact fun _ => ⟨⟩ | exact id | exact And.right | exact And.left | exact (·.1.2) | exact (·.1.1) | exact (·.1.1.1) | exact (·.1.1.2)) (fun hb => ?_) (fun hb => ?_) <;> (try simp at hb) <;> (try (exfalso; omega))))
      · have e : numberF s = (0, false) := number_no fun h => by
          obtain ⟨q1, q2, q3, q4, q5⟩ := numOk_iff.1 h
          rw [byt_nth, ne_eq, u48] at q3
          omega
        rw [e]
        exact Fin.ret (by repeat (first | exact ResL.nil | refine ResL.cons rfl rfl (by first | exact PSub.rfl' | exact PSub.nil' | (refine PSub.of_eq ?_; simp; done) | (refine PSub.of_eq ?_; simp only [List.map_append, List.map_cons, List.map_nil]; rfl) | (refine PSub.of_eq ?_; simp; rfl)) ?_))
      · have h48 : s.length = 1 ∨ byt s 0 ≠ 48 := by
          rw [byt_nth, ne_eq, u48]
          omega
        have hok : numOk s = true := numOk_iff.2 ⟨h0, hd, h48, by
            rcases h48 with h48 | h48
            · omega
            · exact num_short hd h48 (by omega), by omega⟩
        rw [number_of hok]
        simp only [hn]
        exact Fin.ret (by repeat (first | exact ResL.nil | refine ResL.cons rfl rfl (by first | exact PSub.rfl' | exact PSub.nil' | (refine PSub.of_eq ?_; simp; done) | (refine PSub.of_eq ?_; simp only [List.map_append, List.map_cons, List.map_nil]; rfl) | (refine PSub.of_eq ?_; simp; rfl)) ?_))
/-! ### signs -/
theorem u61 (c : UInt8) : c = 61 ↔ (c.toNat : Int) = 61 := by rw [u8_eq]; rfl
def signLen (s : Str) : Nat := match signF s with | some x => x.length | none => 0
theorem one_nth : ∀ k, k < ONE.length → nth ONE k = byt ONE k := fun k _ => (byt_nth ONE k).symm
theorem rsign_ok (s : Str) (a : Nat) (ha : a < s.length) (hl : s.length ≤ 9223372036854775806) : ACalls Tryd.prog 34 [cS s, cI a] (.pv (cI (signLen (s.drop a)))) := by
  refine ACalls.of_W (qs := [cI (signLen (s.drop a))]) [4] 38 Tryd.func34 (by kernel_rfl) rfl rfl rfl fun G => ?_
  apply W.init (by repeat (first | exact InitE.nil | apply InitE.c0 | apply InitE.c1 | apply InitE.c2 | apply InitE.c3 | apply InitE.c4 | apply InitE.c5 | apply InitE.c6 | apply InitE.c7 | apply InitE.c8 | apply InitE.c9 | apply InitE.c10 | apply InitE.c11))
  have hdr : s.drop a = nth s a :: s.drop (a + 1) := drop_byt ha
  have hb1 : byt (s.drop (a + 1)) 0 = nth s (a + 1) := by rw [byt_drop, byt_nth]
  have hsz : (s.drop (a + 1)) ≠ [] ↔ a + 1 < s.length := by
    rw [ne_eq, List.drop_eq_nil_iff]; omega
  repeat' (first
    | apply RG.nil
    | apply Lex.nil
    | apply Then.n
    | apply Then.r
    | apply Then.x
    | apply InBlock.n
    | apply InBlock.r
    | apply InBlock.hit
    | (apply InBlock.miss; exact rfl)
    | apply W.seq
    | apply W.region
    | apply W.block
    | apply W.skip
    | apply W.ret
    | apply W.exit
    | (apply W.draw2 (id := 7) [0, 0, 3, 0, 0, 24, 63] [[0], [1], [31, 32], [5], [6], [34, 35], [33, 36]] 7 [(31, 1), (32, 2), (33, 6442450944), (34, 32), (35, 64), (36, 51539607552), (37, 77309411328)] mixed (by kernel_rfl) rfl rfl)
    | ((first | apply U_ | (apply Ug_; exact rfl; exact rfl) | (apply Ugq_; exact rfl; exact rfl) | apply Lex.u | (apply Lex.g; exact rfl; exact rfl) | (apply Lex.gq; exact rfl; exact rfl)); (first
    | (apply Q_move; (refine Ev.of rfl ?_; first | exact fun _ => ⟨⟩ | exact id | exact And.right | exact And.left | exact (·.1.2) | exact (·.1.1) | exact (·.1.1.1) | exact (·.1.1.2)))
    | (apply Q_assign; (refine Ev.of rfl ?_; first | exact fun _ => ⟨⟩ | exact id | exact And.right | exact And.left | exact (·.1.2) | exact (·.1.1) | exact (·.1.1.1) | exact (·.1.1.2)))
    | (apply Q_add; (refine Ev.of rfl ?_; first | exact fun _ => ⟨⟩ | exact id | exact And.right | exact And.left | exact (·.1.2) | exact (·.1.1) | exact (·.1.1.1) | exact (·.1.1.2)); (refine Ev.of rfl ?_; first | exact fun _ => ⟨⟩ | exact id | exact And.right | exact And.left | exact (·.1.2) | exact (·.1.1) | exact (·.1.1.1) | exact (·.1.1.2)); (first | omega | (constructor <;> omega)))
    | (apply Q_add8; (refine Ev.of rfl ?_; first | exact fun _ => ⟨⟩ | exact id | exact And.right | exact And.left | exact (·.1.2) | exact (·.1.1) | exact (·.1.1.1) | exact (·.1.1.2)); (refine Ev.of rfl ?_; first | exact fun _ => ⟨⟩ | exact id | exact And.right | exact And.left | exact (·.1.2) | exact (·.1.1) | exact (·.1.1.1) | exact (·.1.1.2)); (first | omega | (constructor <;> omega)))
    | (apply Q_bin; (refine Ev.of rfl ?_; first | exact fun _ => ⟨⟩ | exact id | exact And.right | exact And.left | exact (·.1.2) | exact (·.1.1) | exact (·.1.1.1) | exact (·.1.1.2)); (refine Ev.of rfl ?_; first | exact fun _ => ⟨⟩ | exact id | exact And.right | exact And.left | exact (·.1.2) | exact (·.1.1) | exact (·.1.1.1) | exact (·.1.1.2)); exact rfl)
    | (apply Q_or; (refine Ev.of rfl ?_; first | exact fun _ => ⟨⟩ | exact id | exact And.right | exact And.left | exact (·.1.2) | exact (·.1.1) | exact (·.1.1.1) | exact (·.1.1.2)); (refine Ev.of rfl ?_; first | exact fun _ => ⟨⟩ | exact id | exact And.right | exact And.left | exact (·.1.2) | exact (·.1.1) | exact (·.1.1.1) | exact (·.1.1.2)))
    | (apply Q_and; (refine Ev.of rfl ?_; first | exact fun _ => ⟨⟩ | exact id | exact And.right | exact And.left | exact (·.1.2) | exact (·.1.1) | exact (·.1.1.1) | exact (·.1.1.2)); (refine Ev.of rfl ?_; first | exact fun _ => ⟨⟩ | exact id | exact And.right | exact And.left | exact (·.1.2) | exact (·.1.1) | exact (·.1.1.1) | exact (·.1.1.2)))
    | (apply Q_lenm TYok; (refine Ev.of rfl ?_; first | exact fun _ => ⟨⟩ | exact id | exact And.right | exact And.left | exact (·.1.2) | exact (·.1.1) | exact (·.1.1.1) | exact (·.1.1.2)); exact rfl; exact rfl)
    | (apply Q_lend TYok; (refine Ev.of rfl ?_; first | exact fun _ => ⟨⟩ | exact id | exact And.right | exact And.left | exact (·.1.2) | exact (·.1.1) | exact (·.1.1.1) | exact (·.1.1.2)); exact rfl; exact rfl)
    | (apply Q_lenom TYok; (refine Ev.of rfl ?_; first | exact fun _ => ⟨⟩ | exact id | exact And.right | exact And.left | exact (·.1.2) | exact (·.1.1) | exact (·.1.1.1) | exact (·.1.1.2)); exact rfl; exact rfl; exact rfl)
    | (apply Q_len TYok; (refine Ev.of rfl ?_; first | exact fun _ => ⟨⟩ | exact id | exact And.right | exact And.left | exact (·.1.2) | exact (·.1.1) | exact (·.1.1.1) | exact (·.1.1.2)); exact rfl; exact rfl; exact rfl)
    | (apply Q_len0 TYok; (refine Ev.of rfl ?_; first | exact fun _ => ⟨⟩ | exact id | exact And.right | exact And.left | exact (·.1.2) | exact (·.1.1) | exact (·.1.1.1) | exact (·.1.1.2)); exact rfl; exact rfl)
    | (apply Q_lens TYok; (refine Ev.of rfl ?_; first | exact fun _ => ⟨⟩ | exact id | exact And.right | exact And.left | exact (·.1.2) | exact (·.1.1) | exact (·.1.1.1) | exact (·.1.1.2)); exact rfl; exact rfl)
    | (apply Q_binS; (refine Ev.of rfl ?_; first | exact fun _ => ⟨⟩ | exact id | exact And.right | exact And.left | exact (·.1.2) | exact (·.1.1) | exact (·.1.1.1) | exact (·.1.1.2)); (refine Ev.of rfl ?_; first | exact fun _ => ⟨⟩ | exact id | exact And.right | exact And.left | exact (·.1.2) | exact (·.1.1) | exact (·.1.1.1) | exact (·.1.1.2)); exact rfl)
    | (apply Q_binB TYok; (refine Ev.of rfl ?_; first | exact fun _ => ⟨⟩ | exact id | exact And.right | exact And.left | exact (·.1.2) | exact (·.1.1) | exact (·.1.1.1) | exact (·.1.1.2)); (refine Ev.of rfl ?_; first | exact fun _ => ⟨⟩ | exact id | exact And.right | exact And.left | exact (·.1.2) | exact (·.1.1) | exact (·.1.1.1) | exact (·.1.1.2)); exact rfl; exact rfl; exact rfl)
    | (apply Q_indexs TYok; (refine Ev.of rfl ?_; first | exact fun _ => ⟨⟩ | exact id | exact And.right | exact And.left | exact (·.1.2) | exact (·.1.1) | exact (·.1.1.1) | exact (·.1.1.2)); (refine Ev.of rfl ?_; first | exact fun _ => ⟨⟩ | exact id | exact And.right | exact And.left | exact (·.1.2) | exact (·.1.1) | exact (·.1.1.1) | exact (·.1.1.2)); exact rfl; exact rfl; (intro hg; first | exact strAt (by first | omega | (simp at hg; omega) | (simp at hg; done) | fail) | (refine strAt ?_; simp at hg; first | exact Int.ofNat_lt.1 hg | exact Int.ofNat_lt.1 hg.1 | exact Int.ofNat_lt.1 hg.2)))
    | (apply Q_cat; (refine Ev.of rfl ?_; first | exact fun _ => ⟨⟩ | exact id | exact And.right | exact And.left | exact (·.1.2) | exact (·.1.1) | exact (·.1.1.1) | exact (·.1.1.2)); (refine Ev.of rfl ?_; first | exact fun _ => ⟨⟩ | exact id | exact And.right | exact And.left | exact (·.1.2) | exact (·.1.1) | exact (·.1.1.1) | exact (·.1.1.2)); (intro hg; first | omega | (simp; omega) | (simp at hg ⊢; omega)))); exact rfl)
    | (apply S_isnil TYok; exact rfl; exact rfl; exact rfl; (refine Ev.of rfl ?_; first | exact fun _ => ⟨⟩ | exact id | exact And.right | exact And.left | exact (·.1.2) | exact (·.1.1) | exact (·.1.1.1) | exact (·.1.1.2)); intro bn hnil)
    | (apply RG.gT; exact rfl; exact rfl; (first | assumption | decide))
    | (apply RG.gF; exact rfl; exact rfl; (first | assumption | decide); exact rfl)
    | (refine W.cond (by refine Ev.of rfl ?_; first | exact fun _ => ⟨⟩ | exact id | exact And.right | exact And.left | exact (·.1.2) | exact (·.1.1) | exact (·.1.1.1) | exact (·.1.1.2)) (fun hb => ?_) (fun hb => ?_) <;> (try simp at hb) <;> (try (exfalso; omega))))
  · have h1 : a + 1 < s.length := by omega
    have e : signLen (s.drop a) = 2 := by
      have h2 : nth s a = 61 := (u61 _).2 hb.2
      have h3 : nth s (a + 1) = 61 := (u61 _).2 hb.1.2
      rw [signLen, hdr, drop_byt h1, sign_two h2 h3]; rfl
    rw [e]
    exact Fin.ret (by repeat (first | exact ResL.nil | refine ResL.cons rfl rfl (by first | exact PSub.rfl' | exact PSub.nil' | (refine PSub.of_eq ?_; simp; done) | (refine PSub.of_eq ?_; simp only [List.map_append, List.map_cons, List.map_nil]; rfl) | (refine PSub.of_eq ?_; simp; rfl)) ?_))
  · have h2 : ¬ (nth s a = 61 ∧ byt (s.drop (a + 1)) 0 = 61 ∧ (s.drop (a + 1)) ≠ []) := by
      rintro ⟨g1, g2, g3⟩
      rw [hb1, u61] at g2
      rw [u61] at g1
      exact hb (by have := hsz.1 g3; omega) g2 g1
    have hone := sign_one h2
    rw [← hdr] at hone
    apply W.loopP (σ := Nat) 38 [0, 1, 5] (fun k => k ≤ 10 ∧ nth s a ∉ ONE.take k) (fun k => [(6, vI k)]) (fun _ => []) (fun k => 10 - k) (0)
    case hp => repeat (first | exact Pick.nil | apply Pick.cons rfl)
    case h0 =>
      refine ⟨by simp, ?_⟩
      refine Le.mkR rfl rfl ?_ ?_ ?_ rfl
      · repeat (first | exact SubR.nil | apply SubR.p rfl (by first | rfl | (simp; done) | (congr 3; omega) | (congr 3; simp; omega)) | apply SubR.s rfl rfl rfl | apply SubR.a rfl rfl rfl | apply SubR.t rfl rfl | apply SubR.m rfl rfl rfl | apply SubR.i rfl rfl rfl rfl rfl)
      · repeat (first | exact SubR.nil | apply SubR.p rfl (by first | rfl | (simp; done) | (congr 3; omega) | (congr 3; simp; omega)) | apply SubR.s rfl rfl rfl | apply SubR.a rfl rfl rfl | apply SubR.t rfl rfl | apply SubR.m rfl rfl rfl | apply SubR.i rfl rfl rfl rfl rfl)
      · repeat (first | exact SubBR.nil | apply SubBR.cons rfl (by first | rfl | (simp only [List.map_append, List.map_replicate, List.map_cons, List.map_nil]; rfl) | (simp only [List.map_append, List.map_cons, List.map_nil, List.append_assoc, List.cons_append, List.nil_append]; rfl) | (simp; done)))
    case round =>
      rintro k ⟨g1, g2⟩
      apply W.norm (by repeat (first | exact App.nil | apply App.cons))
      have h10 : (ByteArray.mk #[59, 44, 61, 60, 43, 45, 42, 47, 40, 41]).data.toList.length = 10 := rfl
      have h11 : ONE.length = 10 := rfl
      repeat' (first
        | apply RG.nil
        | apply Lex.nil
        | apply Then.n
        | apply Then.r
        | apply Then.x
        | apply InBlock.n
        | apply InBlock.r
        | apply InBlock.hit
        | (apply InBlock.miss; exact rfl)
        | apply W.seq
        | apply W.region
        | apply W.block
        | apply W.skip
        | apply W.ret
        | apply W.exit
        | (apply W.draw2 (id := 7) [0, 0, 3, 0, 0, 24, 63] [[0], [1], [31, 32], [5], [6], [34, 35], [33, 36]] 7 [(31, 1), (32, 2), (33, 6442450944), (34, 32), (35, 64), (36, 51539607552), (37, 77309411328)] mixed (by kernel_rfl) rfl rfl)
        | ((first | apply U_ | (apply Ug_; exact rfl; exact rfl) | (apply Ugq_; exact rfl; exact rfl) | apply Lex.u | (apply Lex.g; exact rfl; exact rfl) | (apply Lex.gq; exact rfl; exact rfl)); (first
    | (apply Q_move; (refine Ev.of rfl ?_; first | exact fun _ => ⟨⟩ | exact id | exact And.right | exact And.left | exact (·.1.2) | exact (·.1.1) | exact (·.1.1.1) | exact (·.1.1.2)))
    | (apply Q_assign; (refine Ev.of rfl ?_; first | exact fun _ => ⟨⟩ | exact id | exact And.right | exact And.left | exact (·.1.2) | exact (·.1.1) | exact (·.1.1.1) | exact (·.1.1.2)))
    | (apply Q_add; (refine Ev.of rfl ?_; first | exact fun _ => ⟨⟩ | exact id | exact And.right | exact And.left | exact (·.1.2) | exact (·.1.1) | exact (·.1.1.1) | exact (·.1.1.2)); (refine Ev.of rfl ?_; first | exact fun _ => ⟨⟩ | exact id | exact And.right | exact And.left | exact (·.1.2) | exact (·.1.1) | exact (·.1.1.1) | exact (·.1.1.2)); (first | omega | (constructor <;> omega)))
    | (apply Q_add8; (refine Ev.of rfl ?_; first | exact fun _ => ⟨⟩ | exact id | exact And.right | exact And.left | exact (·.1.2) | exact (·.1.1) | exact (·.1.1.1) | exact (·.1.1.2)); (refine Ev.of rfl ?_; first | exact fun _ => ⟨⟩ | exact id | exact And.right | exact And.left | exact (·.1.2) | exact (·.1.1) | exact (·.1.1.1) | exact (·.1.1.2)); (first | omega | (constructor <;> omega)))
    | (apply Q_bin; (refine Ev.of rfl ?_; first | exact fun _ => ⟨⟩ | exact id | exact And.right | exact And.left | exact (·.1.2) | exact (·.1.1) | exact (·.1.1.1) | exact (·.1.1.2)); (refine Ev.of rfl ?_; first | exact fun _ => ⟨⟩ | exact id | exact And.right | exact And.left | exact (·.1.2) | exact (·.1.1) | exact (·.1.1.1) | exact (·.1.1.2)); exact rfl)
    | (apply Q_or; (refine Ev.of rfl ?_; first | exact fun _ => ⟨⟩ | exact id | exact And.right | exact And.left | exact (·.1.2) | exact (·.1.1) | exact (·.1.1.1) | exact (·.1.1.2)); (refine Ev.of rfl ?_; first | exact fun _ => ⟨⟩ | exact id | exact And.right | exact And.left | exact (·.1.2) | exact (·.1.1) | exact (·.1.1.1) | exact (·.1.1.2)))
    | (apply Q_and; (refine Ev.of rfl ?_; first | exact fun _ => ⟨⟩ | exact id | exact And.right | exact And.left | exact (·.1.2) | exact (·.1.1) | exact (·.1.1.1) | exact (·.1.1.2)); (refine Ev.of rfl ?_; first | exact fun _ => ⟨⟩ | exact id | exact And.right | exact And.left | exact (·.1.2) | exact (·.1.1) | exact (·.1.1.1) | exact (·.1.1.2)))
    | (apply Q_lenm TYok; (refine Ev.of rfl ?_; first | exact fun _ => ⟨⟩ | exact id | exact And.right | exact And.left | exact (·.1.2) | exact (·.1.1) | exact (·.1.1.1) | exact (·.1.1.2)); exact rfl; exact rfl)
    | (apply Q_lend TYok; (refine Ev.of rfl ?_; first | exact fun _ => ⟨⟩ | exact id | exact And.right | exact And.left | exact (·.1.2) | exact (·.1.1) | exact (·.1.1.1) | exact (·.1.1.2)); exact rfl; exact rfl)
    | (apply Q_lenom TYok; (refine Ev.of rfl ?_; first | exact fun _ => ⟨⟩ | exact id | exact And.right | exact And.left | exact (·.1.2) | exact (·.1.1) | exact (·.1.1.1) | exact (·.1.1.2)); exact rfl; exact rfl; exact rfl)
    | (apply Q_len TYok; (refine Ev.of rfl ?_; first | exact fun _ => ⟨⟩ | exact id | exact And.right | exact And.left | exact (·.1.2) | exact (·.1.1) | exact (·.1.1.1) | exact (·.1.1.2)); exact rfl; exact rfl; exact rfl)
    | (apply Q_len0 TYok; (refine Ev.of rfl ?_; first | exact fun _ => ⟨⟩ | exact id | exact And.right | exact And.left | exact (·.1.2) | exact (·.1.1) | exact (·.1.1.1) | exact (·.1.1.2)); exact rfl; exact rfl)
    | (apply Q_lens TYok; (refine Ev.of rfl ?_; first | exact fun _ => ⟨⟩ | exact id | exact And.right | exact And.left | exact (·.1.2) | exact (·.1.1) | exact (·.1.1.1) | exact (·.1.1.2)); exact rfl; exact rfl)
    | (apply Q_binS; (refine Ev.of rfl ?_; first | exact fun _ => ⟨⟩ | exact id | exact And.right | exact And.left | exact (·.1.2) | exact (·.1.1) | exact (·.1.1.1) | exact (·.1.1.2)); (refine Ev.of rfl ?_; first | exact fun _ => ⟨⟩ | exact id | exact And.right | exact And.left | exact (·.1.2) | exact (·.1.1) | exact (·.1.1.1) | exact (·.1.1.2)); exact rfl)
    | (apply Q_binB TYok; (refine Ev.of rfl ?_; first | exact fun _ => ⟨⟩ | exact id | exact And.right | exact And.left | exact (·.1.2) | exact (·.1.1) | exact (·.1.1.1) | exact (·.1.1.2)); (refine Ev.of rfl ?_; first | exact fun _ => ⟨⟩ | exact id | exact And.right | exact And.left | exact (·.1.2) | exact (·.1.1) | exact (·.1.1.1) | exact (·.1.1.2)); exact rfl; exact rfl; exact rfl)
    | (apply Q_indexs TYok; (refine Ev.of rfl ?_; first | exact fun _ => ⟨⟩ | exact id | exact And.right | exact And.left | exact (·.1.2) | exact (·.1.1) | exact (·.1.1.1) | exact (·.1.1.2)); (refine Ev.of rfl ?_; first | exact fun _ => ⟨⟩ | exact id | exact And.right | exact And.left | exact (·.1.2) | exact (·.1.1) | exact (·.1.1.1) | exact (·.1.1.2)); exact rfl; exact rfl; (intro hg; first | exact strAt (by first | omega | (simp at hg; omega) | (simp at hg; done) | fail) | (refine strAt ?_; simp at hg; first | exact Int.ofNat_lt.1 hg | exact Int.ofNat_lt.1 hg.1 | exact Int.ofNat_lt.1 hg.2)))
    | (apply Q_cat; (refine Ev.of rfl ?_; first | exact fun _ => ⟨⟩ | exact id | exact And.right | exact And.left | exact (·.1.2) | exact (·.1.1) | exact (·.1.1.1) | exact (·.1.1.2)); (refine Ev.of rfl ?_; first | exact fun _ => ⟨⟩ | exact id | exact And.right | exact And.left | exact (·.1.2) | exact (·.1.1) | exact (·.1.1.1) | exact (·.1.1.2)); (intro hg; first | omega | (simp; omega) | (simp at hg ⊢; omega)))); exact rfl)
        | (apply S_isnil TYok; exact rfl; exact rfl; exact rfl; (refine Ev.of rfl ?_; first | exact fun _ => ⟨⟩ | exact id | exact And.right | exact And.left | exact (·.1.2) | exact (·.1.1) | exact (·.1.1.1) | exact (·.1.1.2)); intro bn hnil)
        | (apply RG.gT; exact rfl; exact rfl; (first | assumption | decide))
        | (apply RG.gF; exact rfl; exact rfl; (first | assumption | decide); exact rfl)
        | (refine W.cond (by refine Ev.of rfl ?_; first | exact fun _ => ⟨⟩ | exact id | exact And.right | exact And.left | exact (·.1.2) | exact (·.1.1) | exact (·.1.1.1) | exact (·.1.1.2)) (fun hb => ?_) (fun hb => ?_) <;> (try simp at hb) <;> (try (exfalso; omega))))
      · have hk : k < ONE.length := by omega
        have hm : nth s a ∈ ONE := by
          have e : nth s a = nth ONE k := (u8_eq _ _).2 hb
          rw [e, nth, List.getD, List.getElem?_eq_getElem hk]; exact List.getElem_mem hk
        have e : signLen (s.drop a) = 1 := by rw [signLen, hone, if_pos hm]; rfl
        rw [e]
        exact Fin.ret (by repeat (first | exact ResL.nil | refine ResL.cons rfl rfl (by first | exact PSub.rfl' | exact PSub.nil' | (refine PSub.of_eq ?_; simp; done) | (refine PSub.of_eq ?_; simp only [List.map_append, List.map_cons, List.map_nil]; rfl) | (refine PSub.of_eq ?_; simp; rfl)) ?_))
      · have hk : k < ONE.length := by omega
        refine ⟨k + 1, ⟨by have : ONE.length = 10 := rfl; omega, fun hm => ?_⟩, ?_, ?_⟩
        · rw [take_byt hk, byt_nth] at hm
          rcases List.mem_append.1 hm with hm | hm
          · exact g2 hm
          · exact hb ((u8_eq _ _).1 (List.mem_singleton.1 hm))
        · refine Le.mkR rfl rfl ?_ ?_ ?_ rfl
          · repeat (first | exact SubR.nil | apply SubR.p rfl (by first | rfl | (simp; done) | (congr 3; omega) | (congr 3; simp; omega)) | apply SubR.s rfl rfl rfl | apply SubR.a rfl rfl rfl | apply SubR.t rfl rfl | apply SubR.m rfl rfl rfl | apply SubR.i rfl rfl rfl rfl rfl)
          · repeat (first | exact SubR.nil | apply SubR.p rfl (by first | rfl | (simp; done) | (congr 3; omega) | (congr 3; simp; omega)) | apply SubR.s rfl rfl rfl | apply SubR.a rfl rfl rfl | apply SubR.t rfl rfl | apply SubR.m rfl rfl rfl | apply SubR.i rfl rfl rfl rfl rfl)
          · repeat (first | exact SubBR.nil | apply SubBR.cons rfl (by first | rfl | (simp only [List.map_append, List.map_replicate, List.map_cons, List.map_nil]; rfl) | (simp only [List.map_append, List.map_cons, List.map_nil, List.append_assoc, List.cons_append, List.nil_append]; rfl) | (simp; done)))
        · have : ONE.length = 10 := rfl
          (try simp only); omega
      · have hk : k = ONE.length := by omega
        rw [hk, List.take_length] at g2
        have e : signLen (s.drop a) = 0 := by rw [signLen, hone, if_neg g2]
        rw [e]
        exact Fin.ret (by repeat (first | exact ResL.nil | refine ResL.cons rfl rfl (by first | exact PSub.rfl' | exact PSub.nil' | (refine PSub.of_eq ?_; simp; done) | (refine PSub.of_eq ?_; simp only [List.map_append, List.map_cons, List.map_nil]; rfl) | (refine PSub.of_eq ?_; simp; rfl)) ?_))
end Go.Proofs.YtcllkfehcnpdmaaDoor
