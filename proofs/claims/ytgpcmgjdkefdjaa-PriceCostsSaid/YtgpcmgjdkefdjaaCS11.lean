/-
  Part 11 of what the proof rests on.
-/
import Derived.Test.YtgpcmgjdkefdjaaCS10
import Derived.Shelf.Spec.SlicesGrow
import Derived.Test.YtgpcmgjdkefdjaaProg
import Derived.Test.YtgpcmgjdkefdjaaCS03
import Derived.ProofKit
import Derived.OpenShut
import Derived.Carry
import Derived.Test.YtgpcmgjdkefdjaaCS04
import Derived.Lib.LaidTab
import Derived.Test.YtgpcmgjdkefdjaaCS05
section
set_option linter.unusedVariables false
set_option linter.unusedSimpArgs false
set_option maxHeartbeats 8000000
set_option linter.unusedSectionVars false
namespace Go.Proofs.Ytgpcmgjdkefdjaa
open Lf Go
attribute [local irreducible] PureOp EffOp Ev RG W Then InBlock Lf.Fin nth App InitE Pick EvL EvD EvP EvR ResL Lf.Lex SubR SubBR RA RAll EvC FinO FinM ResM ResD FinS val pw digs trimL
section
abbrev encS (s : List Fq) : List Cell := [.sl (s.map encF)]
abbrev slS (S : List (List Fq)) : PV := .one (.sl (S.map encS))
abbrev slI' (l : List Int) : PV := .one (.sl (l.map Lf.encI))
structure SOk (S : List (List Fq)) : Prop where
  few : ∀ s ∈ S, fewF s
  len : ∀ s ∈ S, s.length ≤ 9223372036854775807
  ok : ∀ s ∈ S, ∀ q ∈ s, FqOk q
/-- the first scenario without a value -/
def allZero (l : List Fl) (d : Int) (S : List (List Fq)) (n : Nat) : Prop := ∀ j, j < n → valE l d (nth S j) = 0
noncomputable def vS (l : List Fl) (d : Int) (s : List Fq) : Rat := vsum s d l l.length
noncomputable def refN (f : Rat) : Int := if ((intV (quoZ f.num f.den) : Int) : Rat) = f then intV (quoZ f.num f.den) else IntKind.i64.wrap (intV (quoZ f.num f.den) + 1)
theorem intV_i64 (x : Int) : i64B (intV x) := by
  unfold intV
  split
  · assumption
  · unfold i64B; omega
theorem refN_good {f : Rat} (h : goodB f = true) : refN f = ceilR f ∧ i64B (quoZ f.num f.den) := by
  obtain ⟨h1, h2, h3⟩ := good_in h
  obtain ⟨f1, f2⟩ := fl_spec f
  refine ⟨?_, h1⟩
  unfold refN ceilR
  rw [show intV (quoZ f.num f.den) = quoZ f.num f.den from if_pos h1]
  by_cases e : ((quoZ f.num f.den : Int) : Rat) = f
  · rw [if_pos e, if_neg (by grind)]
  · rw [if_neg e, if_pos (by grind), i64_id (by unfold i64B at h1; omega)]
theorem refN_bad {f : Rat} (h : goodB f = false) : ((!decide (i64B (quoZ f.num f.den)) || decide (refN f < 0)) || decide (1000000000000000 < refN f)) = true := by
  by_cases hi : i64B (quoZ f.num f.den)
  · obtain ⟨f1, f2⟩ := fl_spec f
    have hg : ¬ (0 ≤ ceilR f ∧ ceilR f ≤ 1000000000000000) := fun q => by
      have : goodB f = true := by unfold goodB; rw [decide_eq_true q.1, decide_eq_true q.2]; rfl
      rw [h] at this; cases this
    have hr : refN f < 0 ∨ 1000000000000000 < refN f := by
      unfold refN
      rw [show intV (quoZ f.num f.den) = quoZ f.num f.den from if_pos hi]
      unfold ceilR at hg
      by_cases e : ((quoZ f.num f.den : Int) : Rat) = f
      · rw [if_pos e]
        rw [if_neg (by grind)] at hg
        omega
      · rw [if_neg e]
        rw [if_pos (by grind)] at hg
        rw [IntKind.wrap_i64]
        unfold i64B at hi
        omega
    rcases hr with q | q
    · rw [decide_eq_true q]; simp
    · rw [decide_eq_true q]; simp
  · rw [decide_eq_false hi]; rfl
attribute [local irreducible] sgn mag gcdZ quoZ remZ fullZ fullE
section
variable (l : List Fl) (d : Int) (S : List (List Fq)) (hl : l.length ≤ 9223372036854775807) (hS : S.length ≤ 9223372036854775807) (hok : SOk S)
include hl hS hok
theorem cost_arg (h : ¬ (1 ≤ S.length ∧ S.length ≤ 20)) : ACalls Try.prog 12 [slW l, cI d, slS S] (.tup [slI' [], cI 1]) ∧ ACalls Try.prog 13 [slW l, cI d, slS S] (.tup [slI' [], cI 1]) := by
  have hz : S.length = 0 ∨ 20 < S.length := by omega
  constructor
  case left =>
    refine ACalls.of_W (qs := [slI' [], cI 1]) [6, 7] 66 Try.func12 (by kernel_rfl) rfl rfl rfl fun G => ?_
    refine W.initA (hw := ?_)
    repeat' (first | (exfalso; omega) | ((first | apply U_ | (apply Ug_; exact rfl; exact rfl) | (apply Ugq_; exact rfl; exact rfl)); (first | exact QX.B TYok | exact QX.Len TYok | exact QX.Idx TYok | exact QX.Ext TYok); exact rfl) | refine SX.Alloc TYok (h := ?_) | refine SX.Store TYok (h := ?_) | refine SX.Lit TYok (h := ?_) | refine SX.App TYok (h := ?_) | refine SC ?_ | refine SG ?_ | (refine W.condA (ht := fun hb => ?_) (hf := fun hb => ?_) <;> (try simp at hb) <;> (try (exfalso; omega))))
    all_goals exact Fin.ret ResL.auto
  case right =>
    have hz' : ¬ S = [] ∧ (S.length : Int) ≤ 20 → False := fun q => by
      rcases hz with w | w
      · exact q.1 (List.length_eq_zero_iff.1 w)
      · omega
    refine ACalls.of_W (qs := [slI' [], cI 1]) [6, 7] 74 Try.func13 (by kernel_rfl) rfl rfl rfl fun G => ?_
    refine W.initA (hw := ?_)
    repeat' (first | (exfalso; omega) | ((first | apply U_ | (apply Ug_; exact rfl; exact rfl) | (apply Ugq_; exact rfl; exact rfl) | apply Lex.u | (apply Lex.g; exact rfl; exact rfl) | (apply Lex.gq; exact rfl; exact rfl)); (first | exact QX.B TYok | exact QX.Len TYok | exact QX.Idx TYok | exact QX.Ext TYok); exact rfl) | refine SX.Alloc TYok (h := ?_) | refine SX.Store TYok (h := ?_) | refine SX.Lit TYok (h := ?_) | refine SX.App TYok (h := ?_) | refine SC ?_ | (apply S_isnil TYok; exact rfl; exact rfl; exact rfl; exact Ev.auto; intro bn hnil) | refine SG ?_ | (apply W.draw2 (id := 12) [0, 1, 0, 7, 15] [[13], [48], [11], [49, 50], [51]] 5 [(48, 8192), (49, 281474976710656), (50, 2048), (51, 1688849860263936), (52, 2251799813685248)] mixed (by kernel_rfl) rfl rfl) | (refine W.condA (ht := fun hb => ?_) (hf := fun hb => ?_) <;> (try simp at hb) <;> (try (exfalso; first | exact hz' hb | omega))))
    all_goals first
      | exact Fin.ret ResL.auto
      | trace_state
theorem cost_fail (h : 1 ≤ S.length ∧ S.length ≤ 20) (n : Nat) (hn : n < S.length) (hz : allZero l d S n) (he : valE l d (nth S n) ≠ 0) : ACalls Try.prog 12 [slW l, cI d, slS S] (.tup [slI' [], cI (valE l d (nth S n))]) := by
  have hv := fun j (hj : j < S.length) => value_both l d (nth S j) hl (hok.len _ (nth_mem hj)) (hok.ok _ (nth_mem hj)) (hok.few _ (nth_mem hj))
  refine ACalls.of_W (qs := [slI' [], cI (valE l d (nth S n))]) [6, 7] 66 Try.func12 (by kernel_rfl) rfl rfl rfl fun G => ?_
  refine W.initA (hw := ?_)
  repeat' (first | ((first | apply U_ | (apply Ug_; exact rfl; exact rfl) | (apply Ugq_; exact rfl; exact rfl)); (first | exact QX.B TYok | exact QX.Len TYok | exact QX.Idx TYok | exact QX.Ext TYok); exact rfl) | refine SX.Alloc TYok (h := ?_) | refine SX.Store TYok (h := ?_) | refine SX.Lit TYok (h := ?_) | refine SX.App TYok (h := ?_) | refine SC ?_ | refine SG ?_ | (refine W.condA (ht := fun hb => ?_) (hf := fun hb => ?_) <;> (try simp at hb) <;> (try (exfalso; omega))))
  refine W.weaken (Le.nilOwn (t := 8) (n := 8) (E := 31) (sz := 4) rfl) ?_
  apply W.loopP (σ := Nat) 66 [0, 1, 26, 27] (fun k => k ≤ n) (fun k => [(28, vI k), (8, (True, .slc 8))]) (fun k => [(8, ⟨31, 4, ((S.take k).map (vS l d)).map encQ⟩)]) (fun k => n - k) (0)
  case hp => repeat (first | exact Pick.nil | apply Pick.cons rfl)
  case h0 =>
    refine ⟨by omega, ?_⟩
    exact Le.auto
  case round =>
    rintro k gk
    apply W.norm (by repeat (first | exact App.nil | apply App.cons))
    have v1 := (hv k (by omega)).1
    by_cases hk : k < n
    · have e0 := hz k hk
      have eV : valV l d (nth S k) = zF (vS l d (nth S k)) := if_pos e0
      rw [e0, eV] at v1
      have e1 : (S.take (k + 1)).map (vS l d) = (S.take k).map (vS l d) ++ [vS l d (nth S k)] := by rw [take_nth (by omega)]; simp
      have l1 : ((S.take k).map (vS l d)).length ≤ 20 := by simp; omega
      generalize (S.take k).map (vS l d) = M at *
      generalize vS l d (nth S k) = X at *
      repeat' (first | ((first | apply U_ | (apply Ug_; exact rfl; exact rfl) | (apply Ugq_; exact rfl; exact rfl)); (first | exact QX.B TYok | exact QX.Len TYok | exact QX.Idx TYok | exact QX.Ext TYok | exact QCd (v1)); exact rfl) | refine SX.Alloc TYok (h := ?_) | refine SX.Store TYok (h := ?_) | refine SX.Lit TYok (h := ?_) | refine SX.App TYok (h := ?_) | refine SC ?_ | refine SG ?_ | (refine W.condA (ht := fun hb => ?_) (hf := fun hb => ?_) <;> (try simp at hb) <;> (try (exfalso; omega))))
      all_goals first
        | (refine ⟨k + 1, by omega, ?_, by omega⟩
           (try dsimp only)
           rw [e1, List.map_append, List.map_cons, List.map_nil]
           exact Le.auto)
        | trace_state
    · obtain rfl : k = n := by omega
      obtain ⟨s0, a0, s1, a1, eV, _, _⟩ := valV_form l d (nth S k) (hok.few _ (nth_mem hn))
      rw [eV] at v1
      generalize valE l d (nth S k) = E at *
      repeat' (first | ((first | apply U_ | (apply Ug_; exact rfl; exact rfl) | (apply Ugq_; exact rfl; exact rfl)); (first | exact QX.B TYok | exact QX.Len TYok | exact QX.Idx TYok | exact QX.Ext TYok | exact QCd (v1)); exact rfl) | refine SX.Alloc TYok (h := ?_) | refine SX.Store TYok (h := ?_) | refine SX.Lit TYok (h := ?_) | refine SX.App TYok (h := ?_) | refine SC ?_ | refine SG ?_ | (refine W.condA (ht := fun hb => ?_) (hf := fun hb => ?_) <;> (try simp at hb) <;> (try (exfalso; omega))))
      all_goals first
        | exact Fin.ret ResL.auto
        | (exfalso; omega)
        | trace_state
theorem rcost_fail (h : 1 ≤ S.length ∧ S.length ≤ 20) (n : Nat) (hn : n < S.length) (hz : allZero l d S n) (he : valE l d (nth S n) ≠ 0) : ACalls Try.prog 13 [slW l, cI d, slS S] (.tup [slI' [], cI (valE l d (nth S n))]) := by
  have hv := fun j (hj : j < S.length) => value_both l d (nth S j) hl (hok.len _ (nth_mem hj)) (hok.ok _ (nth_mem hj)) (hok.few _ (nth_mem hj))
  have hne : S = [] ∨ 20 < (S.length : Int) → False := fun q => by
    rcases q with q | q
    · rw [q] at hn; simp at hn
    · omega
  refine ACalls.of_W (qs := [slI' [], cI (valE l d (nth S n))]) [6, 7] 74 Try.func13 (by kernel_rfl) rfl rfl rfl fun G => ?_
  refine W.initA (hw := ?_)
  repeat' (first | ((first | apply U_ | (apply Ug_; exact rfl; exact rfl) | (apply Ugq_; exact rfl; exact rfl) | apply Lex.u | (apply Lex.g; exact rfl; exact rfl) | (apply Lex.gq; exact rfl; exact rfl)); (first | exact QX.B TYok | exact QX.Len TYok | exact QX.Idx TYok | exact QX.Ext TYok); exact rfl) | refine SX.Alloc TYok (h := ?_) | refine SX.Store TYok (h := ?_) | refine SX.Lit TYok (h := ?_) | refine SX.App TYok (h := ?_) | refine SC ?_ | (apply S_isnil TYok; exact rfl; exact rfl; exact rfl; exact Ev.auto; intro bn hnil) | refine SG ?_ | (apply W.draw2 (id := 12) [0, 1, 0, 7, 15] [[13], [48], [11], [49, 50], [51]] 5 [(48, 8192), (49, 281474976710656), (50, 2048), (51, 1688849860263936), (52, 2251799813685248)] mixed (by kernel_rfl) rfl rfl) | (refine W.condA (ht := fun hb => ?_) (hf := fun hb => ?_) <;> (try simp at hb) <;> (try (exfalso; first | exact hne hb | omega))))
  refine W.weaken (Le.nilOwn (t := 8) (n := 8) (E := 3) (sz := 1) rfl) ?_
  apply W.loopP (σ := (Nat × Bool × List Int)) 74 [0, 1, 2] (fun z => z.1 ≤ n ∧ z.2.2.length = z.1) (fun z => [(10, vI z.1), (9, (True, .pv (cB z.2.1))), (8, (True, .slc 8))]) (fun z => [(8, ⟨3, 1, z.2.2.map Lf.encI⟩)]) (fun z => n - z.1) ((0, false, []))
  case hp => repeat (first | exact Pick.nil | apply Pick.cons rfl)
  case h0 =>
    refine ⟨⟨by omega, rfl⟩, ?_⟩
    exact Le.auto
  case round =>
    rintro ⟨k, B, M⟩ ⟨gk, gm⟩
    apply W.norm (by repeat (first | exact App.nil | apply App.cons))
    simp only at gk gm
    have v1 := (hv k (by omega)).2
    by_cases hk : k < n
    · have e0 := hz k hk
      have eV : valV l d (nth S k) = zF (vS l d (nth S k)) := if_pos e0
      rw [e0, eV] at v1
      have o : okF (vS l d (nth S k)) := (valE_zero (hok.few _ (nth_mem (show k < S.length by omega))) e0).2.2
      have f1 := qfloor_ok (vS l d (nth S k)) o
      have oz := okZ_quo (x := (vS l d (nth S k)).num) o.1 (den_ne (vS l d (nth S k)))
      have i1 := rint_ok _ oz
      have iv := intV_i64 (quoZ (vS l d (nth S k)).num (vS l d (nth S k)).den)
      have w1 := qwhole_ok _ iv
      have c1 := qcmp_ok _ _ (okF_int iv) o
      generalize vS l d (nth S k) = X at *
      generalize cmpR ((intV (quoZ X.num X.den) : Int) : Rat) X = C at *
      generalize ((intV (quoZ X.num X.den) : Int) : Rat) = Y at *
      generalize decide (i64B (quoZ X.num X.den)) = b at *
      generalize intV (quoZ X.num X.den) = v at *
      generalize quoZ X.num X.den = x at *
      have hm : M.length ≤ 20 := by omega
      by_cases hmax : v < 9223372036854775807
      · unfold i64B at iv
        repeat' (first | ((first | apply U_ | (apply Ug_; exact rfl; exact rfl) | (apply Ugq_; exact rfl; exact rfl) | apply Lex.u | (apply Lex.g; exact rfl; exact rfl) | (apply Lex.gq; exact rfl; exact rfl)); (first | exact QX.B TYok | exact QX.Len TYok | exact QX.Idx TYok | exact QX.Ext TYok | exact QCd (v1) | exact QCd (f1) | exact QCd (i1) | exact QCd (w1) | exact QCd (c1)); exact rfl) | refine SX.Alloc TYok (h := ?_) | refine SX.Store TYok (h := ?_) | refine SX.Lit TYok (h := ?_) | refine SX.App TYok (h := ?_) | refine SC ?_ | (apply S_isnil TYok; exact rfl; exact rfl; exact rfl; exact Ev.auto; intro bn hnil) | refine SG ?_ | (apply W.draw2 (id := 12) [0, 1, 0, 7, 15] [[13], [48], [11], [49, 50], [51]] 5 [(48, 8192), (49, 281474976710656), (50, 2048), (51, 1688849860263936), (52, 2251799813685248)] mixed (by kernel_rfl) rfl rfl) | (refine W.condA (ht := fun hb => ?_) (hf := fun hb => ?_) <;> (try simp at hb) <;> (try (exfalso; omega))))
        all_goals first
          | (refine ⟨(k + 1, (((B || !b) || decide (v + 1 < 0)) || decide (1000000000000000 < v + 1)), M ++ [v + 1]), ⟨by simp only; omega, by simp; omega⟩, ?_, by simp only; omega⟩
             simp only [List.map_append, List.map_cons, List.map_nil]
             exact Le.auto)
          | (refine ⟨(k + 1, (((B || !b) || decide (v < 0)) || decide (1000000000000000 < v)), M ++ [v]), ⟨by simp only; omega, by simp; omega⟩, ?_, by simp only; omega⟩
             simp only [List.map_append, List.map_cons, List.map_nil]
             exact Le.auto)
          | trace_state
      · repeat' (first | ((first | apply U_ | (apply Ug_; exact rfl; exact rfl) | (apply Ugq_; exact rfl; exact rfl) | apply Lex.u | (apply Lex.g; exact rfl; exact rfl) | (apply Lex.gq; exact rfl; exact rfl)); (first | exact QX.B TYok | exact QX.Len TYok | exact QX.Idx TYok | exact QX.Ext TYok | exact QCd (v1) | exact QCd (f1) | exact QCd (i1) | exact QCd (w1) | exact QCd (c1)); exact rfl) | refine SX.Alloc TYok (h := ?_) | refine SX.Store TYok (h := ?_) | refine SX.Lit TYok (h := ?_) | refine SX.App TYok (h := ?_) | refine SC ?_ | (apply S_isnil TYok; exact rfl; exact rfl; exact rfl; exact Ev.auto; intro bn hnil) | refine SG ?_ | (apply W.draw2 (id := 12) [0, 1, 0, 7, 15] [[13], [48], [11], [49, 50], [51]] 5 [(48, 8192), (49, 281474976710656), (50, 2048), (51, 1688849860263936), (52, 2251799813685248)] mixed (by kernel_rfl) rfl rfl) | (refine W.condA (ht := fun hb => ?_) (hf := fun hb => ?_) <;> (try simp at hb) <;> (try (exfalso; omega))))
        all_goals first
          | (refine ⟨(k + 1, (((B || !b) || decide (IntKind.i64.wrap (v + 1) < 0)) || decide (1000000000000000 < IntKind.i64.wrap (v + 1))), M ++ [IntKind.i64.wrap (v + 1)]), ⟨by simp only; omega, by simp; omega⟩, ?_, by simp only; omega⟩
             simp only [List.map_append, List.map_cons, List.map_nil]
             exact Le.auto)
          | (refine ⟨(k + 1, (((B || !b) || decide (v < 0)) || decide (1000000000000000 < v)), M ++ [v]), ⟨by simp only; omega, by simp; omega⟩, ?_, by simp only; omega⟩
             simp only [List.map_append, List.map_cons, List.map_nil]
             exact Le.auto)
          | trace_state
    · obtain rfl : k = n := by omega
      obtain ⟨s0, a0, s1, a1, eV, _, _⟩ := valV_form l d (nth S k) (hok.few _ (nth_mem hn))
      rw [eV] at v1
      generalize valE l d (nth S k) = E at *
      repeat' (first | ((first | apply U_ | (apply Ug_; exact rfl; exact rfl) | (apply Ugq_; exact rfl; exact rfl) | apply Lex.u | (apply Lex.g; exact rfl; exact rfl) | (apply Lex.gq; exact rfl; exact rfl)); (first | exact QX.B TYok | exact QX.Len TYok | exact QX.Idx TYok | exact QX.Ext TYok | exact QCd (v1)); exact rfl) | refine SX.Alloc TYok (h := ?_) | refine SX.Store TYok (h := ?_) | refine SX.Lit TYok (h := ?_) | refine SX.App TYok (h := ?_) | refine SC ?_ | (apply S_isnil TYok; exact rfl; exact rfl; exact rfl; exact Ev.auto; intro bn hnil) | refine SG ?_ | (apply W.draw2 (id := 12) [0, 1, 0, 7, 15] [[13], [48], [11], [49, 50], [51]] 5 [(48, 8192), (49, 281474976710656), (50, 2048), (51, 1688849860263936), (52, 2251799813685248)] mixed (by kernel_rfl) rfl rfl) | (refine W.condA (ht := fun hb => ?_) (hf := fun hb => ?_) <;> (try simp at hb) <;> (try (exfalso; omega))))
      all_goals first
        | exact Fin.ret ResL.auto
        | (exfalso; omega)
        | trace_state
theorem cost_walk (h : 1 ≤ S.length ∧ S.length ≤ 20) (hz : allZero l d S S.length) (n : Nat) (hn : n ≤ S.length) (hg : ∀ j, j < n → goodB (vS l d (nth S j)) = true) (V : List Int) (e : Int) (he : (e = 0 ∧ n = S.length ∧ V = (S.map (vS l d)).map ceilR) ∨ (e = 3 ∧ n < S.length ∧ goodB (vS l d (nth S n)) = false ∧ V = [])) :
    ACalls Try.prog 12 [slW l, cI d, slS S] (.tup [slI' V, cI e]) := by
  have hv := fun j (hj : j < S.length) => value_both l d (nth S j) hl (hok.len _ (nth_mem hj)) (hok.ok _ (nth_mem hj)) (hok.few _ (nth_mem hj))
  have ov := fun j (hj : j < S.length) => (valE_zero (hok.few _ (nth_mem hj)) (hz j hj)).2.2
  refine ACalls.of_W (qs := [slI' V, cI e]) [6, 7] 66 Try.func12 (by kernel_rfl) rfl rfl rfl fun G => ?_
  refine W.initA (hw := ?_)
  repeat' (first | ((first | apply U_ | (apply Ug_; exact rfl; exact rfl) | (apply Ugq_; exact rfl; exact rfl)); (first | exact QX.B TYok | exact QX.Len TYok | exact QX.Idx TYok | exact QX.Ext TYok); exact rfl) | refine SX.Alloc TYok (h := ?_) | refine SX.Store TYok (h := ?_) | refine SX.Lit TYok (h := ?_) | refine SX.App TYok (h := ?_) | refine SC ?_ | refine SG ?_ | (refine W.condA (ht := fun hb => ?_) (hf := fun hb => ?_) <;> (try simp at hb) <;> (try (exfalso; omega))))
  refine W.weaken (Le.nilOwn (t := 8) (n := 8) (E := 31) (sz := 4) rfl) ?_
  apply W.loopP (σ := Nat) 66 [0, 1, 26, 27] (fun k => k ≤ S.length) (fun k => [(28, vI k), (8, (True, .slc 8))]) (fun k => [(8, ⟨31, 4, ((S.take k).map (vS l d)).map encQ⟩)]) (fun k => S.length - k) (0)
  case hp => repeat (first | exact Pick.nil | apply Pick.cons rfl)
  case h0 =>
    refine ⟨by omega, ?_⟩
    exact Le.auto
  case round =>
    rintro k gk
    apply W.norm (by repeat (first | exact App.nil | apply App.cons))
    by_cases hk : k < S.length
    · have v1 := (hv k hk).1
      have e0 := hz k hk
      have eV : valV l d (nth S k) = zF (vS l d (nth S k)) := if_pos e0
      rw [e0, eV] at v1
      have e1 : (S.take (k + 1)).map (vS l d) = (S.take k).map (vS l d) ++ [vS l d (nth S k)] := by rw [take_nth (by omega)]; simp
      have l1 : ((S.take k).map (vS l d)).length ≤ 20 := by simp; omega
      generalize (S.take k).map (vS l d) = M at *
      generalize vS l d (nth S k) = X at *
      repeat' (first | ((first | apply U_ | (apply Ug_; exact rfl; exact rfl) | (apply Ugq_; exact rfl; exact rfl)); (first | exact QX.B TYok | exact QX.Len TYok | exact QX.Idx TYok | exact QX.Ext TYok | exact QCd (v1)); exact rfl) | refine SX.Alloc TYok (h := ?_) | refine SX.Store TYok (h := ?_) | refine SX.Lit TYok (h := ?_) | refine SX.App TYok (h := ?_) | refine SC ?_ | refine SG ?_ | (refine W.condA (ht := fun hb => ?_) (hf := fun hb => ?_) <;> (try simp at hb) <;> (try (exfalso; omega))))
      all_goals first
        | (refine ⟨k + 1, by omega, ?_, by omega⟩
           (try dsimp only)
           rw [e1, List.map_append, List.map_cons, List.map_nil]
           exact Le.auto)
        | trace_state
    obtain rfl : k = S.length := by omega
    rw [List.take_length]
    have lW : (S.map (vS l d)).length = S.length := by simp
    have nW : ∀ j, j < S.length → nth (S.map (vS l d)) j = vS l d (nth S j) := fun j hj => by
      rw [nth_eq (by simpa using hj), List.getElem_map, nth_eq hj]
    generalize S.map (vS l d) = WW at *
    repeat' (first | ((first | apply U_ | (apply Ug_; exact rfl; exact rfl) | (apply Ugq_; exact rfl; exact rfl)); (first | exact QX.B TYok | exact QX.Len TYok | exact QX.Idx TYok | exact QX.Ext TYok); exact rfl) | refine SX.Alloc TYok (h := ?_) | refine SX.Store TYok (h := ?_) | refine SX.Lit TYok (h := ?_) | refine SX.App TYok (h := ?_) | refine SC ?_ | refine SG ?_ | (refine W.condA (ht := fun hb => ?_) (hf := fun hb => ?_) <;> (try simp at hb) <;> (try (exfalso; omega))))
    refine W.weaken (Le.nilOwn (t := 13) (n := 13) (E := 3) (sz := 1) rfl) ?_
    apply W.loopP (σ := Nat) 66 [47, 48] (fun k => k ≤ n) (fun k => [(49, vI k), (13, (True, .slc 13))]) (fun k => [(8, ⟨31, 4, WW.map encQ⟩), (13, ⟨3, 1, ((WW.take k).map ceilR).map Lf.encI⟩)]) (fun k => n - k) (0)
    case hp => repeat (first | exact Pick.nil | apply Pick.cons rfl)
    case h0 =>
      refine ⟨by omega, ?_⟩
      exact Le.auto
    case round =>
      rintro k gk
      apply W.norm (by repeat (first | exact App.nil | apply App.cons))
      by_cases hk : k < S.length
      case neg =>
        obtain rfl : k = n := by omega
        rcases he with ⟨rfl, rfl, rfl⟩ | ⟨rfl, h3, _, rfl⟩
        · rw [← lW, List.take_length]
          repeat' (first | (refine W.weaken (Le.freeze1 (m := 13) rfl) ?_; apply W.region (id := 21)) | ((first | apply U_ | (apply Ug_; exact rfl; exact rfl) | (apply Ugq_; exact rfl; exact rfl)); (first | exact QX.B TYok | exact QX.Len TYok | exact QX.Idx TYok | exact QX.Ext TYok); exact rfl) | refine SX.Alloc TYok (h := ?_) | refine SX.Store TYok (h := ?_) | refine SX.Lit TYok (h := ?_) | refine SX.App TYok (h := ?_) | refine SC ?_ | refine SG ?_ | (refine W.condA (ht := fun hb => ?_) (hf := fun hb => ?_) <;> (try simp at hb) <;> (try (exfalso; omega))))
          all_goals first
            | exact Fin.ret ResL.auto
            | (exfalso; omega)
            | trace_state
        · exact absurd h3 hk
      have o := ov k hk
      obtain ⟨u, u1, u2⟩ := up_ok _ o
      have nk := nW k hk
      have hgk := hg k
      have e1 : (WW.take (k + 1)).map ceilR = (WW.take k).map ceilR ++ [ceilR (nth WW k)] := by rw [take_nth (by omega)]; simp
      have l1 : ((WW.take k).map ceilR).length ≤ 20 := by simp; omega
      rw [show vsum (nth S k) d l l.length = vS l d (nth S k) from rfl, ← nk] at u1 u2
      rw [← nk] at hgk
      generalize (WW.take k).map ceilR = M at *
      by_cases hk2 : k < n
      · rw [hgk hk2] at u1
        rw [u2 (hgk hk2)] at u1
        generalize ceilR (nth WW k) = c at *
        repeat' (first | ((first | apply U_ | (apply Ug_; exact rfl; exact rfl) | (apply Ugq_; exact rfl; exact rfl)); (first | exact QX.B TYok | exact QX.Len TYok | exact QX.Idx TYok | exact QX.Ext TYok | exact QCd (u1)); exact rfl) | refine SX.Alloc TYok (h := ?_) | refine SX.Store TYok (h := ?_) | refine SX.Lit TYok (h := ?_) | refine SX.App TYok (h := ?_) | refine SC ?_ | refine SG ?_ | (refine W.condA (ht := fun hb => ?_) (hf := fun hb => ?_) <;> (try simp at hb) <;> (try (exfalso; omega))))
        all_goals first
          | (refine ⟨k + 1, by omega, ?_, by omega⟩
             (try dsimp only)
             rw [e1, List.map_append, List.map_cons, List.map_nil]
             exact Le.auto)
          | trace_state
      · obtain rfl : k = n := by omega
        rcases he with ⟨_, h3, _⟩ | ⟨rfl, h3, hb3, rfl⟩
        · omega
        · rw [← nk] at hb3
          rw [hb3] at u1
          repeat' (first | ((first | apply U_ | (apply Ug_; exact rfl; exact rfl) | (apply Ugq_; exact rfl; exact rfl)); (first | exact QX.B TYok | exact QX.Len TYok | exact QX.Idx TYok | exact QX.Ext TYok | exact QCd (u1)); exact rfl) | refine SX.Alloc TYok (h := ?_) | refine SX.Store TYok (h := ?_) | refine SX.Lit TYok (h := ?_) | refine SX.App TYok (h := ?_) | refine SC ?_ | refine SG ?_ | (refine W.condA (ht := fun hb => ?_) (hf := fun hb => ?_) <;> (try simp at hb) <;> (try (exfalso; omega))))
          all_goals first
            | exact Fin.ret ResL.auto
            | (exfalso; omega)
            | trace_state
theorem rcost_walk (h : 1 ≤ S.length ∧ S.length ≤ 20) (hz : allZero l d S S.length) (V : List Int) (e : Int) (he : (e = 0 ∧ (∀ j, j < S.length → goodB (vS l d (nth S j)) = true) ∧ V = (S.map (vS l d)).map ceilR) ∨ (e = 3 ∧ (∃ j, j < S.length ∧ goodB (vS l d (nth S j)) = false) ∧ V = [])) :
    ACalls Try.prog 13 [slW l, cI d, slS S] (.tup [slI' V, cI e]) := by
  have hv := fun j (hj : j < S.length) => value_both l d (nth S j) hl (hok.len _ (nth_mem hj)) (hok.ok _ (nth_mem hj)) (hok.few _ (nth_mem hj))
  have hne : S = [] ∨ 20 < (S.length : Int) → False := fun q => by
    rcases q with q | q
    · rw [q] at h; simp at h
    · omega
  refine ACalls.of_W (qs := [slI' V, cI e]) [6, 7] 74 Try.func13 (by kernel_rfl) rfl rfl rfl fun G => ?_
  refine W.initA (hw := ?_)
  repeat' (first | ((first | apply U_ | (apply Ug_; exact rfl; exact rfl) | (apply Ugq_; exact rfl; exact rfl) | apply Lex.u | (apply Lex.g; exact rfl; exact rfl) | (apply Lex.gq; exact rfl; exact rfl)); (first | exact QX.B TYok | exact QX.Len TYok | exact QX.Idx TYok | exact QX.Ext TYok); exact rfl) | refine SX.Alloc TYok (h := ?_) | refine SX.Store TYok (h := ?_) | refine SX.Lit TYok (h := ?_) | refine SX.App TYok (h := ?_) | refine SC ?_ | (apply S_isnil TYok; exact rfl; exact rfl; exact rfl; exact Ev.auto; intro bn hnil) | refine SG ?_ | (apply W.draw2 (id := 12) [0, 1, 0, 7, 15] [[13], [48], [11], [49, 50], [51]] 5 [(48, 8192), (49, 281474976710656), (50, 2048), (51, 1688849860263936), (52, 2251799813685248)] mixed (by kernel_rfl) rfl rfl) | (refine W.condA (ht := fun hb => ?_) (hf := fun hb => ?_) <;> (try simp at hb) <;> (try (exfalso; first | exact hne hb | omega))))
  refine W.weaken (Le.nilOwn (t := 8) (n := 8) (E := 3) (sz := 1) rfl) ?_
  apply W.loopP (σ := (Nat × Bool)) 74 [0, 1, 2] (fun z => z.1 ≤ S.length ∧ (z.2 = true ↔ ∃ j, j < z.1 ∧ goodB (vS l d (nth S j)) = false)) (fun z => [(10, vI z.1), (9, (True, .pv (cB z.2))), (8, (True, .slc 8))]) (fun z => [(8, ⟨3, 1, ((S.take z.1).map fun s => refN (vS l d s)).map Lf.encI⟩)]) (fun z => S.length - z.1) ((0, false))
  case hp => repeat (first | exact Pick.nil | apply Pick.cons rfl)
  case h0 =>
    refine ⟨⟨by omega, by simp⟩, ?_⟩
    exact Le.auto
  case round =>
    rintro ⟨k, B⟩ ⟨gk, gb⟩
    apply W.norm (by repeat (first | exact App.nil | apply App.cons))
    simp only at gk gb
    by_cases hk : k < S.length
    · have v1 := (hv k (by omega)).2
      have e0 := hz k hk
      have eV : valV l d (nth S k) = zF (vS l d (nth S k)) := if_pos e0
      rw [e0, eV] at v1
      have o : okF (vS l d (nth S k)) := (valE_zero (hok.few _ (nth_mem (show k < S.length by omega))) e0).2.2
      have f1 := qfloor_ok (vS l d (nth S k)) o
      have oz := okZ_quo (x := (vS l d (nth S k)).num) o.1 (den_ne (vS l d (nth S k)))
      have i1 := rint_ok _ oz
      have iv := intV_i64 (quoZ (vS l d (nth S k)).num (vS l d (nth S k)).den)
      have w1 := qwhole_ok _ iv
      have c1 := qcmp_ok _ _ (okF_int iv) o
      have e1 : (S.take (k + 1)).map (fun s => refN (vS l d s)) = (S.take k).map (fun s => refN (vS l d s)) ++ [refN (vS l d (nth S k))] := by rw [take_nth (by omega)]; simp
      have l1 : ((S.take k).map fun s => refN (vS l d s)).length ≤ 20 := by simp; omega
      generalize (S.take k).map (fun s => refN (vS l d s)) = M at *
      have cc := cmpR_cases ((intV (quoZ (vS l d (nth S k)).num (vS l d (nth S k)).den) : Int) : Rat) (vS l d (nth S k))
      have rg := refN_good (f := vS l d (nth S k))
      have rb := refN_bad (f := vS l d (nth S k))
      have er : refN (vS l d (nth S k)) = if ((intV (quoZ (vS l d (nth S k)).num (vS l d (nth S k)).den) : Int) : Rat) = vS l d (nth S k) then intV (quoZ (vS l d (nth S k)).num (vS l d (nth S k)).den) else IntKind.i64.wrap (intV (quoZ (vS l d (nth S k)).num (vS l d (nth S k)).den) + 1) := rfl
      have hnext : ∀ B' : Bool, B' = (((B || !decide (i64B (quoZ (vS l d (nth S k)).num (vS l d (nth S k)).den))) || decide (refN (vS l d (nth S k)) < 0)) || decide (1000000000000000 < refN (vS l d (nth S k)))) → (B' = true ↔ ∃ j, j < k + 1 ∧ goodB (vS l d (nth S j)) = false) := fun B' hB' => by
        subst hB'
        constructor
        · intro q
          cases hgd : goodB (vS l d (nth S k)) with
          | false => exact ⟨k, by omega, hgd⟩
          | true =>
            obtain ⟨r1, r2⟩ := rg hgd
            obtain ⟨_, _, r3⟩ := good_in hgd
            rw [decide_eq_true r2, r1, decide_eq_false (show ¬ ceilR (vS l d (nth S k)) < 0 by omega), decide_eq_false (show ¬ 1000000000000000 < ceilR (vS l d (nth S k)) by omega)] at q
            simp only [Bool.not_true, Bool.or_false] at q
            obtain ⟨j, hj, hg'⟩ := gb.1 q
            exact ⟨j, by omega, hg'⟩
        · rintro ⟨j, hj, hg'⟩
          rcases Nat.lt_or_ge j k with w | w
          · rw [gb.2 ⟨j, w, hg'⟩]; rfl
          · obtain rfl : j = k := by omega
            have := rb hg'
            simp only [Bool.or_eq_true] at this ⊢
            rcases this with (t | t) | t
            · exact .inl (.inl (.inr t))
            · exact .inl (.inr t)
            · exact .inr t
      clear rg rb oz
      by_cases heq : ((intV (quoZ (vS l d (nth S k)).num (vS l d (nth S k)).den) : Int) : Rat) = vS l d (nth S k)
      · rw [if_pos heq] at er
        have y : cmpR ((intV (quoZ (vS l d (nth S k)).num (vS l d (nth S k)).den) : Int) : Rat) (vS l d (nth S k)) = 0 := by
          rcases cc with q | q | q
          · exact absurd q.2 (by rw [heq]; grind)
          · exact q.1
          · exact absurd q.2 (by rw [heq]; grind)
        clear cc heq
        generalize hR : refN (vS l d (nth S k)) = R at *
        generalize vS l d (nth S k) = X at *
        generalize cmpR ((intV (quoZ X.num X.den) : Int) : Rat) X = C at *
        generalize ((intV (quoZ X.num X.den) : Int) : Rat) = Y at *
        generalize decide (i64B (quoZ X.num X.den)) = b at *
        generalize intV (quoZ X.num X.den) = v at *
        subst er
        repeat' (first | ((first | apply U_ | (apply Ug_; exact rfl; exact rfl) | (apply Ugq_; exact rfl; exact rfl) | apply Lex.u | (apply Lex.g; exact rfl; exact rfl) | (apply Lex.gq; exact rfl; exact rfl)); (first | exact QX.B TYok | exact QX.Len TYok | exact QX.Idx TYok | exact QX.Ext TYok | exact QCd (v1) | exact QCd (f1) | exact QCd (i1) | exact QCd (w1) | exact QCd (c1)); exact rfl) | refine SX.Alloc TYok (h := ?_) | refine SX.Store TYok (h := ?_) | refine SX.Lit TYok (h := ?_) | refine SX.App TYok (h := ?_) | refine SC ?_ | (apply S_isnil TYok; exact rfl; exact rfl; exact rfl; exact Ev.auto; intro bn hnil) | refine SG ?_ | (apply W.draw2 (id := 12) [0, 1, 0, 7, 15] [[13], [48], [11], [49, 50], [51]] 5 [(48, 8192), (49, 281474976710656), (50, 2048), (51, 1688849860263936), (52, 2251799813685248)] mixed (by kernel_rfl) rfl rfl) | (refine W.condA (ht := fun hb => ?_) (hf := fun hb => ?_) <;> (try simp at hb) <;> (try (exfalso; omega))))
        all_goals first
          | (refine ⟨(k + 1, _), ⟨by simp only; omega, hnext _ rfl⟩, ?_, by simp only; omega⟩
             (try dsimp only)
             rw [e1, List.map_append, List.map_cons, List.map_nil]
             exact Le.auto)
          | (exfalso; omega)
          | trace_state
      · rw [if_neg heq] at er
        have y : ¬ cmpR ((intV (quoZ (vS l d (nth S k)).num (vS l d (nth S k)).den) : Int) : Rat) (vS l d (nth S k)) = 0 := by
          rcases cc with q | q | q
          · omega
          · exact absurd q.2 heq
          · omega
        clear cc heq
        generalize hR : refN (vS l d (nth S k)) = R at *
        generalize vS l d (nth S k) = X at *
        generalize cmpR ((intV (quoZ X.num X.den) : Int) : Rat) X = C at *
        generalize ((intV (quoZ X.num X.den) : Int) : Rat) = Y at *
        generalize decide (i64B (quoZ X.num X.den)) = b at *
        generalize intV (quoZ X.num X.den) = v at *
        clear iv
        subst er
        repeat' (first | ((first | apply U_ | (apply Ug_; exact rfl; exact rfl) | (apply Ugq_; exact rfl; exact rfl) | apply Lex.u | (apply Lex.g; exact rfl; exact rfl) | (apply Lex.gq; exact rfl; exact rfl)); (first | exact QX.B TYok | exact QX.Len TYok | exact QX.Idx TYok | exact QX.Ext TYok | exact QCd (v1) | exact QCd (f1) | exact QCd (i1) | exact QCd (w1) | exact QCd (c1)); exact rfl) | refine SX.Alloc TYok (h := ?_) | refine SX.Store TYok (h := ?_) | refine SX.Lit TYok (h := ?_) | refine SX.App TYok (h := ?_) | refine SC ?_ | (apply S_isnil TYok; exact rfl; exact rfl; exact rfl; exact Ev.auto; intro bn hnil) | refine SG ?_ | (apply W.draw2 (id := 12) [0, 1, 0, 7, 15] [[13], [48], [11], [49, 50], [51]] 5 [(48, 8192), (49, 281474976710656), (50, 2048), (51, 1688849860263936), (52, 2251799813685248)] mixed (by kernel_rfl) rfl rfl) | (refine W.condA (ht := fun hb => ?_) (hf := fun hb => ?_) <;> (try simp at hb) <;> (try (exfalso; omega))))
        all_goals first
          | (refine ⟨(k + 1, _), ⟨by simp only; omega, hnext _ rfl⟩, ?_, by simp only; omega⟩
             (try dsimp only)
             rw [e1, List.map_append, List.map_cons, List.map_nil]
             exact Le.auto)
          | (exfalso; omega)
          | trace_state
    · obtain rfl : k = S.length := by omega
      rw [List.take_length]
      rcases he with ⟨rfl, hg, rfl⟩ | ⟨rfl, hex, rfl⟩
      · have hB : B = false := by
          rw [Bool.eq_false_iff]
          intro q
          obtain ⟨j, hj, hg'⟩ := gb.1 q
          rw [hg j hj] at hg'
          cases hg'
        subst hB
        have el : S.map (fun s => refN (vS l d s)) = (S.map (vS l d)).map ceilR := by
          rw [List.map_map]
          refine List.map_congr_left fun s hs => ?_
          obtain ⟨j, hj, rfl⟩ := List.getElem_of_mem hs
          have := hg j hj
          rw [nth_eq hj] at this
          exact (refN_good this).1
        rw [el]
        repeat' (first | (refine W.weaken (Le.freeze1 (m := 8) rfl) ?_; apply W.region (id := 18)) | ((first | apply U_ | (apply Ug_; exact rfl; exact rfl) | (apply Ugq_; exact rfl; exact rfl) | apply Lex.u | (apply Lex.g; exact rfl; exact rfl) | (apply Lex.gq; exact rfl; exact rfl)); (first | exact QX.B TYok | exact QX.Len TYok | exact QX.Idx TYok | exact QX.Ext TYok); exact rfl) | refine SX.Alloc TYok (h := ?_) | refine SX.Store TYok (h := ?_) | refine SX.Lit TYok (h := ?_) | refine SX.App TYok (h := ?_) | refine SC ?_ | (apply S_isnil TYok; exact rfl; exact rfl; exact rfl; exact Ev.auto; intro bn hnil) | refine SG ?_ | (apply W.draw2 (id := 12) [0, 1, 0, 7, 15] [[13], [48], [11], [49, 50], [51]] 5 [(48, 8192), (49, 281474976710656), (50, 2048), (51, 1688849860263936), (52, 2251799813685248)] mixed (by kernel_rfl) rfl rfl) | (refine W.condA (ht := fun hb => ?_) (hf := fun hb => ?_) <;> (try simp at hb) <;> (try (exfalso; omega))))
        all_goals first
          | exact Fin.ret ResL.auto
          | trace_state
      · have hB : B = true := gb.2 hex
        subst hB
        repeat' (first | ((first | apply U_ | (apply Ug_; exact rfl; exact rfl) | (apply Ugq_; exact rfl; exact rfl) | apply Lex.u | (apply Lex.g; exact rfl; exact rfl) | (apply Lex.gq; exact rfl; exact rfl)); (first | exact QX.B TYok | exact QX.Len TYok | exact QX.Idx TYok | exact QX.Ext TYok); exact rfl) | refine SX.Alloc TYok (h := ?_) | refine SX.Store TYok (h := ?_) | refine SX.Lit TYok (h := ?_) | refine SX.App TYok (h := ?_) | refine SC ?_ | (apply S_isnil TYok; exact rfl; exact rfl; exact rfl; exact Ev.auto; intro bn hnil) | refine SG ?_ | (apply W.draw2 (id := 12) [0, 1, 0, 7, 15] [[13], [48], [11], [49, 50], [51]] 5 [(48, 8192), (49, 281474976710656), (50, 2048), (51, 1688849860263936), (52, 2251799813685248)] mixed (by kernel_rfl) rfl rfl) | (refine W.condA (ht := fun hb => ?_) (hf := fun hb => ?_) <;> (try simp at hb) <;> (try (exfalso; omega))))
        all_goals first
          | exact Fin.ret ResL.auto
          | trace_state
end
end
end Go.Proofs.Ytgpcmgjdkefdjaa
end
section
namespace Go.Proofs
open Go.Shelf
def Try.growW_ren : Go.Shelf.Ren := ⟨fun | 4 => 68 | n => n, fun | 22 => 22 | 25 => 44 | 3 => 3 | 4 => 4 | 9 => 9 | 20 => 20 | 0 => 0 | 2 => 3 | n => n, fun | n => n⟩
theorem Try.growW : Go.Proofs.Lays8.n4 Try.prog Try.growW_ren := {
  mixed := by kernel_rfl
  f4 := ⟨Try.f68.name, by decide, Try.func68.trans (congrArg some (by kernel_rfl))⟩
  t0 := Try.underlying0
  a0 := Try.isAgg0
  z0 := Try.sizeOf0
  v0 := Try.zeroValue0
  t3 := Try.underlying3
  a3 := Try.isAgg3
  z3 := Try.sizeOf3
  v3 := Try.zeroValue3
  t4 := Try.underlying4
  a4 := Try.isAgg4
  z4 := Try.sizeOf4
  v4 := Try.zeroValue4
  t9 := Try.underlying9
  a9 := Try.isAgg9
  z9 := Try.sizeOf9
  v9 := Try.zeroValue9
  t20 := Try.underlying20
  a20 := Try.isAgg20
  z20 := Try.sizeOf20
  v20 := Try.zeroValue20
  t22 := Try.underlying22
  a22 := Try.isAgg22
  z22 := Try.sizeOf22
  v22 := Try.zeroValue22 }
end Go.Proofs
end
section
set_option linter.unusedVariables false
set_option linter.unusedSimpArgs false
set_option linter.unusedSectionVars false
namespace Lf
open Go Go.RowKit Go.ChangeShapes Go.WideShapes Go.ChangeAt
def allΦ (w : World) : Frz := fun b => match w.heap[b]? with | some (.cells c _ _) => some c | _ => none
theorem fits_all (w : World) : Fits (allΦ w) w := by
  intro b cs h
  unfold allΦ at h
  split at h
  · rename_i c e l he
    obtain rfl := Option.some.inj h
    exact ⟨_, _, he⟩
  · cases h
theorem cell_all {w : World} {a : Addr} {v : Value} (h : w.cell? a = some v) : a.spot = none ∧ (allΦ w a.block).bind (·[a.off]?) = some v := by
  unfold World.cell? at h
  unfold allΦ
  split at h
  · rename_i c e l he
    rw [he]
    split at h
    · cases h
    · rename_i hs
      exact ⟨by simpa using hs, by simpa using h⟩
  · cases h
def TyS (R : Nat → List Cell → Prop) : List (Nat × Nat) → List Cell → Prop
  | [], cl => cl = []
  | (_, ft) :: fs, cl => ∃ a b, cl = a ++ b ∧ R ft a ∧ TyS R fs b
def TyL (T : TT) : Nat → Nat → List Cell → Prop
  | 0, _, _ => False
  | n + 1, t, cl => match (T t).map TI.kind with
    | some (.int k) => ∃ i, cl = [.int k i] ∧ (Lit.int k i).wf = true
    | some .bool => ∃ b, cl = [.bool b]
    | some .string => ∃ s, cl = [.str s] ∧ s.length ≤ maxLen
    | some (.slice e) => ∃ rows, cl = [.sl rows] ∧ rows.length ≤ maxLen ∧ ∀ r ∈ rows, TyL T n e r
    | some (.struct fs) => TyS (TyL T n) fs cl
    | _ => False
def tile (T : TT) : Nat → List (Nat × Nat) → Option Nat
  | o, [] => some o
  | o, (fo, ft) :: fs => bif Nat.beq fo o then (T ft).bind fun ti => tile T (o + ti.sz) fs else none
def sup (T : TT) : Nat → Nat → Bool
  | 0, _ => false
  | n + 1, t => match T t with
    | some ti => (match ti.kind with
      | .int _ | .bool | .string => Nat.beq ti.sz 1
      | .slice e => Nat.beq ti.sz 1 && sup T n e && (match T e with | some te => Nat.blt 0 te.sz | none => false)
      | .struct fs => (match tile T 0 fs with | some s => Nat.beq s ti.sz | none => false) && fs.all fun f => sup T n f.2
      | _ => false)
    | none => false
theorem pick_rows {α : Type} {p : Nat → α → Prop} : ∀ {n : Nat}, (∀ i, i < n → ∃ r, p i r) → ∃ rows : List α, rows.length = n ∧ ∀ i r, rows[i]? = some r → p i r
  | 0, _ => ⟨[], rfl, fun i r h => by simp at h⟩
  | n + 1, h => by
    obtain ⟨rows, h1, h2⟩ := pick_rows (n := n) fun i hi => h i (by omega)
    obtain ⟨r, hr⟩ := h n (by omega)
    refine ⟨rows ++ [r], by simp [h1], fun i s hs => ?_⟩
    rw [List.getElem?_append] at hs
    split at hs
    · exact h2 i s hs
    · rename_i hi
      by_cases he : i = n
      · subst he
        simp [h1] at hs
        exact hs ▸ hr
      · rw [List.getElem?_eq_none (by simp; omega)] at hs
        cases hs
section
variable {P : Program} {T : TT} (hT : TOK P T)
include hT
theorem cellsOf_ti {t : Nat} {ti : TI} (h : T t = some ti) : P.cellsOf t = ti.sz := by
  obtain ⟨i, hi, hs, _⟩ := (hT t ti h).info
  simp [Program.cellsOf, hi, hs]
theorem read {H : Type} {enc : TypeId × Value → H} {w : World} {base : Nat} {spare : Nat → Bool} {held : Bool} : ∀ (n t fuel : Nat) (cs : List Value) (x : DataW H × List MemPlace), sup T n t = true → DataW.trod enc P w base spare held fuel t cs = some x →
    ∃ cl, RelL (allΦ w) cs cl ∧ TyL T n t cl ∧ ∀ ti, T t = some ti → cl.length = ti.sz := by
  intro n
  induction n with
  | zero => intro t fuel cs x hs _; simp [sup] at hs
  | succ n ih =>
    intro t fuel cs x hs h
    cases hti : T t with
    | none => simp [sup, hti] at hs
    | some ti =>
      have hk := (hT t ti hti).kind
      have hz := cellsOf_ti hT hti
      simp only [sup, hti] at hs
      simp only [TyL, hti, Option.map_some]
      cases hkd : ti.kind with
      | int k =>
        rw [hkd] at hk hs
        obtain ⟨i, rfl, hx, hw⟩ := DataW.trod_int hk h
        exact ⟨[.int k i], ⟨.int k i, trivial⟩, ⟨i, rfl, hw⟩, fun tj hj => by obtain rfl := Option.some.inj hj; simpa using (Nat.eq_of_beq_eq_true hs).symm⟩
      | bool =>
        rw [hkd] at hk hs
        obtain ⟨b, rfl, hx⟩ := DataW.trod_bool hk h
        exact ⟨[.bool b], ⟨.bool b, trivial⟩, ⟨b, rfl⟩, fun tj hj => by obtain rfl := Option.some.inj hj; simpa using (Nat.eq_of_beq_eq_true hs).symm⟩
      | string =>
        rw [hkd] at hk hs
        obtain ⟨s, rfl, hx, hw⟩ := DataW.trod_string hk h
        refine ⟨[.str s.data.toList], ⟨.str s, trivial⟩, ⟨_, rfl, ?_⟩, fun tj hj => by obtain rfl := Option.some.inj hj; simpa using (Nat.eq_of_beq_eq_true hs).symm⟩
        rw [Array.length_toList]; exact hw
      | slice e =>
        rw [hkd] at hk hs
        simp only [Bool.and_eq_true] at hs
        obtain ⟨⟨hs1, hs2⟩, hs3⟩ := hs
        cases hte : T e with
        | none => rw [hte] at hs3; cases hs3
        | some te =>
          rw [hte] at hs3
          have hpos := blt_lt hs3
          have hze := cellsOf_ti hT hte
          have hlen1 : ∀ tj, some ti = some tj → 1 = tj.sz := fun tj hj => by obtain rfl := Option.some.inj hj; exact (Nat.eq_of_beq_eq_true hs1).symm
          rcases DataW.trod_slice hk h with ⟨rfl, hx⟩ | ⟨a, len, cap, elems, rest, m, rfl, rfl, hx, hb, hl, hm, hel, hget, _, _⟩
          · exact ⟨[.sl []], ⟨.sl0, trivial⟩, ⟨[], rfl, Nat.zero_le _, fun r hr => by cases hr⟩, hlen1⟩
          · have each : ∀ i, i < len → ∃ cl : List Cell, ∃ ci, w.cells? base (a.add (i * P.cellsOf e)) (P.cellsOf e) = some ci ∧ RelL (allΦ w) ci cl ∧ TyL T n e cl ∧ cl.length = te.sz := by
              intro i hi
              have h1 := hget i hi
              rw [List.getElem?_eq_getElem (by omega)] at h1
              cases hc : w.cells? base (a.add (i * P.cellsOf e)) (P.cellsOf e) with
              | none => rw [hc] at h1; cases h1
              | some ci =>
                rw [hc] at h1
                obtain ⟨cl, g1, g2, g3⟩ := ih e m ci _ hs2 h1
                exact ⟨cl, ci, rfl, g1, g2, g3 te hte⟩
            obtain ⟨rows, hr1, hr2⟩ := pick_rows each
            refine ⟨[.sl rows], ⟨?_, trivial⟩, ⟨rows, rfl, by omega, fun r hr => ?_⟩, hlen1⟩
            · by_cases h0 : len = 0
              · subst h0
                obtain rfl : rows = [] := List.eq_nil_of_length_eq_zero hr1
                exact .slE a cap
              · obtain ⟨b, off, spot⟩ := a
                have cellat : ∀ i j r c, rows[i]? = some r → r[j]? = some c → ∃ v, w.cell? (Addr.add (Addr.add ⟨b, off, spot⟩ (i * te.sz)) j) = some v ∧ Rel (allΦ w) v c := by
                  intro i j r c h1 h2
                  obtain ⟨ci, g1, g2, g3, g4⟩ := hr2 i r h1
                  obtain ⟨v, hv1, hv2⟩ := g2.get h2
                  rw [hze] at g1
                  have hj : j < te.sz := by have := (List.getElem?_eq_some_iff.1 h2).1; omega
                  have := World.cells?_some g1
                  refine ⟨v, ?_, hv2⟩
                  rw [← hv1]
                  exact this.2.2 j hj
                have hrow0 : ∃ r, rows[0]? = some r := ⟨rows[0]'(by omega), List.getElem?_eq_getElem (by omega)⟩
                obtain ⟨r0, hr0⟩ := hrow0
                obtain ⟨_, _, _, _, hl0⟩ := hr2 0 r0 hr0
                obtain ⟨v0, hv0, _⟩ := cellat 0 0 r0 _ hr0 (List.getElem?_eq_getElem (show 0 < r0.length by omega))
                have hz0 : Addr.add (Addr.add ⟨b, off, spot⟩ (0 * te.sz)) 0 = ⟨b, off, spot⟩ := by simp [Addr.add]
                rw [hz0] at hv0
                have hsp : spot = none := (cell_all hv0).1
                subst hsp
                refine .sl b off len cap te.sz rows (fun i j => ((allΦ w b).bind (·[off + (i * te.sz + j)]?)).getD .nilFunc) hr1 hl (fun r hr => ?_) (fun i j r c h1 h2 => ?_) (fun i j r c h1 h2 => ?_)
                · obtain ⟨i, hi⟩ := List.getElem?_of_mem hr
                  obtain ⟨_, _, _, _, g⟩ := hr2 i r hi
                  exact g
                · obtain ⟨v, hv, _⟩ := cellat i j r c h1 h2
                  have := (cell_all hv).2
                  simp only [Addr.add_lit] at this
                  rw [show off + (i * te.sz + j) = off + i * te.sz + j by omega, this]; rfl
                · obtain ⟨v, hv, hv2⟩ := cellat i j r c h1 h2
                  have := (cell_all hv).2
                  simp only [Addr.add_lit] at this
                  rw [show off + (i * te.sz + j) = off + i * te.sz + j by omega, this]; exact hv2
            · obtain ⟨i, hi⟩ := List.getElem?_of_mem hr
              obtain ⟨_, _, _, g, _⟩ := hr2 i r hi
              exact g
      | struct fs =>
        rw [hkd] at hk hs
        obtain ⟨fields, hu, hfs⟩ := hk
        simp only [Bool.and_eq_true] at hs
        obtain ⟨hs1, hs2⟩ := hs
        cases htl : tile T 0 fs with
        | none => rw [htl] at hs1; cases hs1
        | some tot =>
          rw [htl] at hs1
          have htot := Nat.eq_of_beq_eq_true hs1
          obtain ⟨xs, m, rfl, hx, hlen, hxl, hget⟩ := DataW.trod_struct hu h
          have hall : ∀ f ∈ fs, ∃ y, DataW.trod enc P w base spare held m f.2 ((cs.drop f.1).take (P.cellsOf f.2)) = some y := by
            intro f hf
            rw [← hfs] at hf
            obtain ⟨g, hg, rfl⟩ := List.mem_map.1 hf
            obtain ⟨i, hi⟩ := List.getElem?_of_mem hg
            have hi' : fields[i]? = some g := by rw [← hi]; simp
            have hlt : i < xs.length := by rw [hxl]; exact (Array.getElem?_eq_some_iff.1 hi').1
            exact ⟨xs[i], by rw [hget i g hi', List.getElem?_eq_getElem hlt]⟩
          have main : ∀ (gs : List (Nat × Nat)) (o : Nat), (∀ f ∈ gs, ∃ y, DataW.trod enc P w base spare held m f.2 ((cs.drop f.1).take (P.cellsOf f.2)) = some y) → gs.all (fun f => sup T n f.2) = true → tile T o gs = some tot → cs.length = tot →
              ∃ cl, RelL (allΦ w) (cs.drop o) cl ∧ TyS (TyL T n) gs cl ∧ o + cl.length = tot := by
            intro gs
            induction gs with
            | nil =>
              intro o _ _ h1 h2
              simp only [tile, Option.some.injEq] at h1
              refine ⟨[], ?_, rfl, by simp [h1]⟩
              rw [List.drop_eq_nil_of_le (by omega)]
              trivial
            | cons f gs ihs =>
              intro o hall' hsup h1 h2
              obtain ⟨fo, ft⟩ := f
              rw [tile] at h1
              cases hbe : Nat.beq fo o with
              | false => rw [hbe] at h1; cases h1
              | true =>
                have := Nat.eq_of_beq_eq_true hbe
                subst this
                rw [hbe, cond_true] at h1
                cases htf : T ft with
                | none => rw [htf] at h1; cases h1
                | some tf =>
                  rw [htf] at h1
                  simp only [Option.bind_some] at h1
                  simp only [List.all_cons, Bool.and_eq_true] at hsup
                  obtain ⟨y, hy⟩ := hall' _ (List.mem_cons_self ..)
                  obtain ⟨c1, a1, a2, a3⟩ := ih ft m _ y hsup.1 hy
                  obtain ⟨c2, b1, b2, b3⟩ := ihs (fo + tf.sz) (fun g hg => hall' g (List.mem_cons_of_mem _ hg)) hsup.2 h1 h2
                  have hl1 := a3 tf htf
                  refine ⟨c1 ++ c2, ?_, ⟨c1, c2, rfl, a2, b2⟩, by simp; omega⟩
                  have e : cs.drop fo = (cs.drop fo).take tf.sz ++ cs.drop (fo + tf.sz) := by
                    rw [← List.drop_drop, List.take_append_drop]
                  rw [e]
                  rw [cellsOf_ti hT htf] at a1
                  exact a1.append b1
          obtain ⟨cl, c1, c2, c3⟩ := main fs 0 hall hs2 htl (by rw [hlen, hz, htot])
          refine ⟨cl, by simpa using c1, c2, fun tj hj => ?_⟩
          obtain rfl := Option.some.inj hj
          omega
      | array k e => rw [hkd] at hs; cases hs
      | ptr e => rw [hkd] at hs; cases hs
      | map k e => rw [hkd] at hs; cases hs
      | func => rw [hkd] at hs; cases hs
      | iface => rw [hkd] at hs; cases hs
      | other => rw [hkd] at hs; cases hs
/-- A slice that came in. -/
theorem read_slice {H : Type} {enc : TypeId × Value → H} {w : World} {base b0 : Nat} {spare : Nat → Bool} {held : Bool} {r : Reach} {t e : Nat} {v : Value} {d : DataW H} {ps : List MemPlace} (n : Nat) (hu : P.underlying t = some (.slice e)) (hs : sup T n t = true)
    (hval : Value.okWide P w r b0 t v) (hd : DataW.Trod enc P w base spare held t v d ps) : ∃ c, Rel (allΦ w) v c ∧ TyL T n t [c] := by
  obtain ⟨a, len, cap, rfl⟩ := okWide_slice hu hval
  obtain ⟨fuel, hf⟩ := hd
  obtain ⟨cl, h1, h2, _⟩ := read hT n t fuel _ _ hs hf
  simp only [Value.cells] at h1
  match cl, h1, h2 with
  | [c], h1, h2 => exact ⟨c, h1.1, h2⟩
end
theorem rows_map {α : Type} {f : α → List Cell} {p : α → Prop} : ∀ {rows : List (List Cell)}, (∀ r ∈ rows, ∃ v, r = f v ∧ p v) → ∃ l : List α, rows = l.map f ∧ ∀ v ∈ l, p v
  | [], _ => ⟨[], rfl, fun v hv => by cases hv⟩
  | r :: rs, h => by
    obtain ⟨v, rfl, hv⟩ := h r (List.mem_cons_self ..)
    obtain ⟨l, rfl, hl⟩ := rows_map fun s hs => h s (List.mem_cons_of_mem _ hs)
    exact ⟨v :: l, rfl, fun u hu => by cases hu with | head => exact hv | tail _ hm => exact hl u hm⟩
/-- arguments, one after the other -/
def ArgsL (Φ : Frz) : List Value → List PV → Prop
  | [], [] => True
  | v :: vs, p :: ps => PRel Φ v p ∧ ArgsL Φ vs ps
  | _, _ => False
theorem ArgsL.rel {Φ : Frz} : ∀ {vs : List Value} {ps : List PV}, ArgsL Φ vs ps → vs.length = ps.length ∧ ∀ (j : Nat) (p : PV), ps[j]? = some p → ∃ v, vs[j]? = some v ∧ PRel Φ v p
  | [], [], _ => ⟨rfl, fun j p h => by simp at h⟩
  | v :: vs, p :: ps, h => by
    obtain ⟨h1, h2⟩ := ArgsL.rel h.2
    refine ⟨by simp [h1], fun j q hq => ?_⟩
    cases j with
    | zero => simp at hq; exact ⟨v, rfl, hq ▸ h.1⟩
    | succ j => simpa using h2 j q (by simpa using hq)
theorem ArgsRel.of {Φ : Frz} {vs : List Value} {ps : List PV} (h : ArgsL Φ vs ps) : ArgsRel Φ vs.toArray ps := ⟨by simpa using h.rel.1, fun j p hp => by simpa using h.rel.2 j p hp⟩
theorem ArgsL.nil {Φ : Frz} : ArgsL Φ [] [] := trivial
theorem ArgsL.cons {Φ : Frz} {v : Value} {vs : List Value} {p : PV} {ps : List PV} (h : PRel Φ v p) (hs : ArgsL Φ vs ps) : ArgsL Φ (v :: vs) (p :: ps) := ⟨h, hs⟩
end Lf
end
section
set_option linter.unusedVariables false
set_option linter.unusedSimpArgs false
set_option linter.unusedSectionVars false
namespace Lf
open Go Go.RowKit
section
variable {P : Program} {G : Ghost} {A : St} {Φ : Frz} {β : Own} {a : Act} {w w' : World}
theorem args2 {Φ : Frz} {vs : Array Value} {p q : PV} (h : ArgsRel Φ vs [p, q]) : ∃ v u, vs = #[v, u] ∧ PRel Φ v p ∧ PRel Φ u q := by
  obtain ⟨hsz, hv⟩ := h
  obtain ⟨v0, h0, r0⟩ := hv 0 _ rfl
  obtain ⟨v1, h1, r1⟩ := hv 1 _ rfl
  refine ⟨v0, v1, ?_, r0, r1⟩
  apply Array.ext
  · exact hsz
  · intro i h2 h3
    have h4 : i = 0 ∨ i = 1 := by simp at h3; omega
    rcases h4 with rfl | rfl
    · have := h0; rw [Array.getElem?_eq_getElem h2] at this; simpa using this
    · have := h1; rw [Array.getElem?_eq_getElem h2] at this; simpa using this
theorem int_of {Φ : Frz} {v : Value} {k : IntKind} {n : Int} (h : PRel Φ v (.one (.int k n))) : v = .int k n := by
  have h' : Rel Φ v (.int k n) := h
  cases h'; rfl
end
section
variable {P : Program} {G : Ghost} {ops : Array Oper} {rest : List Oper} {Q : St → Prop} {n0 : Nat} {env : List (Nat × (Prop × AV))} {bl : List (Nat × Blk)} {ty : TypeId} {pos : String} {after : Array Edge}
end
end Lf
end
section
set_option linter.unusedVariables false
set_option linter.unusedSimpArgs false
set_option maxHeartbeats 8000000
set_option linter.unusedSectionVars false
namespace Go.Proofs.Ytgpcmgjdkefdjaa
open Lf Go
attribute [local irreducible] PureOp EffOp Ev RG W Then InBlock Lf.Fin nth App InitE Pick EvL EvD EvP EvR ResL Lf.Lex SubR SubBR RA RAll EvC FinO FinM ResM ResD FinS val pw digs trimL
section
open Go.RowKit
theorem grow_own (n : Nat) (hb : n ≤ 1000000) : OCalls Try.prog 68 [.one .slnil, cI n] 44 2 [] where
  fn := ⟨Try.f68, Try.func68, by kernel_rfl, by kernel_rfl⟩
  calls := fun Φ w vs hfit harg => by
    obtain ⟨v, u, rfl, hv, hu⟩ := args2 harg
    obtain rfl : v = .slice none 0 0 := by
      have h : Rel Φ v .slnil := hv
      cases h; rfl
    obtain rfl := int_of hu
    by_cases h0 : n = 0
    · subst h0
      refine Calls.mono (Any8.slices_Grow_room Try.growW none 0 0 0 w (by omega) (by omega) (by omega) (by omega)) ?_
      rintro e w' ⟨rfl, rfl⟩
      exact ⟨_, Φ, rfl, .inl ⟨rfl, rfl⟩, Φ.le_refl, fun _ _ => rfl, hfit, Below.refl _ _⟩
    · obtain ⟨i, hi, hisz, hib, z, hzz, hrel⟩ := (TYok 44 _ rfl).info
      have hsz : i.size = 2 := hisz
      have hbt : i.bytes = 16 := hib
      have hzr := (hrel Φ).cells
      have hzs : z.cells.size = 2 := by have := hzr.length; rw [Array.length_toList] at this; exact this
      have hg := Any8.slices_Grow_grow Try.growW i z hi hzz (by omega) none 0 0 n [] w (by omega) (by omega) (by rw [hbt]; omega) (by omega) (by simp) (fun _ => rfl) (fun a h => by cases h)
      refine Calls.mono hg ?_
      rintro e w' ⟨rfl, rfl⟩
      have hcg := grownCap_ge w (0 + n) 0 44
      have hcm := grownCap_le_maxLen w (0 + n) 0 44 (by unfold maxLen; omega)
      have hren : Try.growW_ren.t 25 = 44 := rfl
      rw [hren]
      generalize grownCap w (0 + n) 0 44 = cap at *
      refine ⟨_, Φ, rfl, .inr ⟨w.heap.size, cap, rfl, Nat.le_refl _, .inl ⟨rfl, _, by show (w.heap.push _)[w.heap.size]? = _; rw [Array.getElem?_push_size], by simp, hcm, ?_, by simp, by simp⟩, ?_⟩, Φ.le_refl, fun _ _ => rfl, ?_, ?_⟩
      · simp [Builtin.zeroCells, hzs]
        omega
      · cases hΦ : Φ w.heap.size with
        | none => rfl
        | some c =>
          obtain ⟨E, fz, hw⟩ := hfit _ c hΦ
          simp at hw
      · intro b c hc
        obtain ⟨E, fz, hw⟩ := hfit b c hc
        have hlt := (Array.getElem?_eq_some_iff.1 hw).1
        exact ⟨E, fz, by show (w.heap.push _)[b]? = _; rw [Array.getElem?_push, if_neg (by omega)]; exact hw⟩
      · exact ⟨rfl, rfl, rfl, by show w.heap.size ≤ (w.heap.push _).size; simp, fun k hk => by show (w.heap.push _)[k]? = _; rw [Array.getElem?_push, if_neg (by omega)]⟩
abbrev encX (x : List Fl) : List Cell := [.sl (x.map encW)]
theorem flat_next {X : List (List Fl)} {k : Nat} (hk : k < X.length) : (X.take (k + 1)).flatten = (X.take k).flatten ++ nth X k := by
  rw [take_nth hk, List.flatten_append]
  simp
theorem concat_ok (X : List (List Fl)) (hX : X.length ≤ 4) (hx : ∀ x ∈ X, x.length ≤ 400) : ACalls Try.prog 43 [.one (.sl (X.map encX))] (.pv (slW X.flatten)) := by
  have hlen : ∀ k, k ≤ X.length → ((X.take k).flatten).length ≤ 400 * k := fun k => by
    induction k with
    | zero => intro _; simp
    | succ k ih =>
      intro h
      rw [flat_next (by omega), List.length_append]
      have := ih (by omega)
      have := hx _ (nth_mem (show k < X.length by omega))
      omega
  have hl4 := hlen X.length (Nat.le_refl _)
  rw [List.take_length] at hl4
  have gr := grow_own X.flatten.length (by omega)
  refine ACalls.of_W (qs := [slW X.flatten]) [2] 36 Try.func43 (by kernel_rfl) rfl rfl rfl fun G => ?_
  refine W.initA (hw := ?_)
  repeat' (first | ((first | apply U_); (first | exact QX.B TYok | exact QX.Len TYok | exact QX.Idx TYok); exact rfl) | refine SX.App TYok (h := ?_) | refine SC ?_ | (refine W.condA (ht := fun hb => ?_) (hf := fun hb => ?_) <;> (try simp at hb) <;> (try (exfalso; omega))))
  apply W.loopP (σ := Nat) 36 [0, 9, 10] (fun k => k ≤ X.length) (fun k => [(11, vI k), (3, vI (((X.take k).flatten).length : Int))]) (fun _ => []) (fun k => X.length - k) (0)
  case hp => repeat (first | exact Pick.nil | apply Pick.cons rfl)
  case h0 =>
    refine ⟨by omega, ?_⟩
    exact Le.auto
  case round =>
    rintro k gk
    apply W.norm (by repeat (first | exact App.nil | apply App.cons))
    by_cases hk : k < X.length
    · have e1 := flat_next hk
      have l1 := hlen k gk
      have l2 := hx _ (nth_mem hk)
      have e2 : (((X.take (k + 1)).flatten).length : Int) = (((X.take k).flatten).length : Int) + ((nth X k).length : Int) := by rw [e1, List.length_append]; omega
      generalize (X.take k).flatten = M at *
      repeat' (first | ((first | apply U_); (first | exact QX.B TYok | exact QX.Len TYok | exact QX.Idx TYok); exact rfl) | refine SX.App TYok (h := ?_) | refine SC ?_ | (refine W.condA (ht := fun hb => ?_) (hf := fun hb => ?_) <;> (try simp at hb) <;> (try (exfalso; omega))))
      all_goals first
        | (refine ⟨k + 1, by omega, ?_, by omega⟩; (try dsimp only); rw [e2]; exact Le.auto)
        | (exfalso; omega)
        | trace_state
    obtain rfl : k = X.length := by omega
    rw [List.take_length]
    repeat' (first | ((first | apply U_); (first | exact QX.B TYok | exact QX.Len TYok | exact QX.Idx TYok); exact rfl) | refine SX.App TYok (h := ?_) | (apply S_callo (gr); exact rfl; exact rfl; exact rfl; exact EvD.auto) | refine SC ?_ | (refine W.condA (ht := fun hb => ?_) (hf := fun hb => ?_) <;> (try simp at hb) <;> (try (exfalso; omega))))
    apply W.loopP (σ := Nat) 36 [25, 26] (fun k => k ≤ X.length) (fun k => [(27, vI k), (6, (True, .slc 24))]) (fun k => [(24, ⟨44, 2, ((X.take k).flatten).map encW⟩)]) (fun k => X.length - k) (0)
    case hp => repeat (first | exact Pick.nil | apply Pick.cons rfl)
    case h0 =>
      refine ⟨by omega, ?_⟩
      exact Le.auto
    case round =>
      rintro k gk
      apply W.norm (by repeat (first | exact App.nil | apply App.cons))
      by_cases hk : k < X.length
      · have e1 := flat_next hk
        have l1 := hlen k gk
        have l2 := hx _ (nth_mem hk)
        generalize (X.take k).flatten = M at *
        repeat' (first | ((first | apply U_); (first | exact QX.B TYok | exact QX.Len TYok | exact QX.Idx TYok); exact rfl) | refine SX.App TYok (h := ?_) | refine SC ?_ | (refine W.condA (ht := fun hb => ?_) (hf := fun hb => ?_) <;> (try simp at hb) <;> (try (exfalso; omega))))
        all_goals first
          | (refine ⟨k + 1, by omega, ?_, by omega⟩; (try dsimp only); rw [e1, List.map_append]; exact Le.auto)
          | (exfalso; omega)
          | trace_state
      obtain rfl : k = X.length := by omega
      rw [List.take_length]
      repeat' (first | (refine W.weaken (Le.freeze1 (m := 24) rfl) ?_; apply W.region (id := 15)) | ((first | apply U_); (first | exact QX.B TYok | exact QX.Len TYok | exact QX.Idx TYok); exact rfl) | refine SX.App TYok (h := ?_) | refine SC ?_ | (refine W.condA (ht := fun hb => ?_) (hf := fun hb => ?_) <;> (try simp at hb) <;> (try (exfalso; omega))))
      all_goals first
        | exact Fin.ret ResL.auto
        | trace_state
end
end Go.Proofs.Ytgpcmgjdkefdjaa
end
section
set_option linter.unusedVariables false
set_option linter.unusedSimpArgs false
set_option maxHeartbeats 8000000
set_option linter.unusedSectionVars false
namespace Go.Proofs.Ytgpcmgjdkefdjaa
open Lf Go
attribute [local irreducible] PureOp EffOp Ev RG W Then InBlock Lf.Fin nth App InitE Pick EvL EvD EvP EvR ResL Lf.Lex SubR SubBR RA RAll EvC FinO FinM ResM ResD FinS val pw digs trimL
section
/-- the sum of the amounts in so many first years -/
def Uof (d : Int) : List Fl → Int → Int
  | [], _ => 0
  | f :: l, n => (if yrI d f < n then f.amt else 0) + Uof d l n
def mostY (d : Int) : List Fl → Int
  | [] => 0
  | f :: l => max (yrI d f) (mostY d l)
structure LIn (l : List Fl) (d : Int) : Prop where
  fl : flowsB l d = true
  early : ∀ f ∈ l, d ≤ f.day
theorem LIn.tail {f : Fl} {l : List Fl} {d : Int} (h : ∀ g ∈ f :: l, d ≤ g.day) : ∀ g ∈ l, d ≤ g.day := fun g hg => h g (List.mem_cons_of_mem _ hg)
theorem mostY_nn (d : Int) : ∀ l, 0 ≤ mostY d l
  | [] => Int.le_refl _
  | f :: l => by have := mostY_nn d l; rw [mostY]; omega
theorem Uof_more {d : Int} {l : List Fl} {n m : Int} (hn : mostY d l < n) (hm : n ≤ m) : Uof d l m = Uof d l n := by
  induction l with
  | nil => rfl
  | cons f l ih =>
    rw [mostY] at hn
    rw [Uof, Uof, ih (by omega), if_pos (by omega), if_pos (by omega)]
theorem Uof_zero {d : Int} {l : List Fl} (h : ∀ f ∈ l, d ≤ f.day) {n : Int} (hn : n ≤ 0) : Uof d l n = 0 := by
  induction l with
  | nil => rfl
  | cons f l ih =>
    have := h f (List.mem_cons_self ..)
    have hy : 0 ≤ yrI d f := by unfold yrI; omega
    rw [Uof, if_neg (by omega), ih (LIn.tail h)]; rfl
theorem mostY_snoc (d : Int) (l : List Fl) (f : Fl) : mostY d (l ++ [f]) = max (mostY d l) (yrI d f) := by
  induction l with
  | nil => simp only [List.nil_append, mostY]; omega
  | cons g l ih => rw [List.cons_append, mostY, mostY, ih]; omega
/-- dearer: right, no payment ahead of the day, and at least as1 much in each number of first years -/
def Dear (a b : List Fl) (d : Int) : Prop := LIn a d ∧ LIn b d ∧ ∀ n : Nat, Uof d b n ≤ Uof d a n
theorem LIn.rng {l : List Fl} {d : Int} (h : LIn l d) : ((0 ≤ d ∧ d ≤ 200000) ∧ l.length ≤ 400) ∧ ∀ f ∈ l, (0 ≤ f.day ∧ f.day ≤ 200000) ∧ (-1000000000000000 ≤ f.amt ∧ f.amt ≤ 1000000000000000) := flowsB_yes h.fl
theorem LIn.yr {l : List Fl} {d : Int} (h : LIn l d) {f : Fl} (hf : f ∈ l) : 0 ≤ yrI d f ∧ yrI d f ≤ 547 := by
  have h1 := (h.rng.2 f hf).1
  have h2 := h.early f hf
  have h3 := h.rng.1.1
  unfold yrI; omega
theorem mostY_le {l : List Fl} {d : Int} (h : ∀ f ∈ l, yrI d f ≤ 547) : mostY d l ≤ 547 := by
  induction l with
  | nil => simp [mostY]
  | cons f l ih =>
    have := ih fun g hg => h g (List.mem_cons_of_mem _ hg)
    have := h f (List.mem_cons_self ..)
    rw [mostY]; omega
theorem dear_iff {a b : List Fl} {d : Int} (ha : LIn a d) (hb : LIn b d) : Dear a b d ↔ ∀ n : Nat, (n : Int) ≤ max (mostY d a) (mostY d b) → Uof d b (n + 1) ≤ Uof d a (n + 1) := by
  constructor
  · rintro ⟨_, _, h⟩ n _
    exact h (n + 1)
  · intro h
    refine ⟨ha, hb, fun n => ?_⟩
    cases n with
    | zero => rw [Uof_zero ha.early (by omega), Uof_zero hb.early (by omega)]; exact Int.le_refl _
    | succ n =>
      have ma := mostY_nn d a
      have mb := mostY_nn d b
      by_cases hn : (n : Int) ≤ max (mostY d a) (mostY d b)
      · exact h n hn
      · have := h (max (mostY d a) (mostY d b)).toNat (by omega)
        rw [show (((max (mostY d a) (mostY d b)).toNat : Nat) : Int) + 1 = max (mostY d a) (mostY d b) + 1 by omega] at this
        rw [Uof_more (n := max (mostY d a) (mostY d b) + 1) (by omega) (by omega), Uof_more (l := a) (n := max (mostY d a) (mostY d b) + 1) (by omega) (by omega)]
        exact this
end
end Go.Proofs.Ytgpcmgjdkefdjaa
end
section
set_option linter.unusedVariables false
set_option linter.unusedSimpArgs false
set_option maxHeartbeats 8000000
set_option linter.unusedSectionVars false
namespace Go.Proofs.Ytgpcmgjdkefdjaa
open Lf Go
attribute [local irreducible] PureOp EffOp Ev RG W Then InBlock Lf.Fin nth App InitE Pick EvL EvD EvP EvR ResL Lf.Lex SubR SubBR RA RAll EvC FinO FinM ResM ResD FinS val pw digs trimL
section
def cellI (n : Int) : List Cell := [.int .i64 n]
theorem KI : KeyK Try.prog 3 kI := KeyK.int (by kernel_rfl)
def mg (M : List (Int × Int)) (y : Int) : Int := (mget M y).getD 0
theorem mg_mput (M : List (Int × Int)) (k v y : Int) : mg (mput M k v) y = if k = y then v else mg M y := by
  unfold mg
  induction M with
  | nil =>
    rw [mput, mget, mget]
    split <;> rfl
  | cons p r ih =>
    obtain ⟨x, z⟩ := p
    rw [mput]
    by_cases h : x = k
    · subst h
      rw [if_pos rfl, mget, mget]
      split <;> rfl
    · rw [if_neg h, mget, mget]
      by_cases h2 : x = y
      · subst h2
        rw [if_pos rfl, if_pos rfl, if_neg (fun e => h e.symm)]
      · rw [if_neg h2, if_neg h2]
        exact ih
/-- the sum of the amounts of one year -/
def Dsum (d : Int) : List Fl → Int → Int
  | [], _ => 0
  | f :: l, y => (if yrI d f = y then f.amt else 0) + Dsum d l y
theorem Dsum_snoc (d : Int) (l : List Fl) (f : Fl) (y : Int) : Dsum d (l ++ [f]) y = Dsum d l y + (if yrI d f = y then f.amt else 0) := by
  induction l with
  | nil => simp [Dsum]
  | cons g l ih => rw [List.cons_append, Dsum, Dsum, ih]; omega
theorem Uof_next (d : Int) (l : List Fl) (y : Int) : Uof d l (y + 1) = Uof d l y + Dsum d l y := by
  induction l with
  | nil => rfl
  | cons f l ih =>
    rw [Uof, Uof, Dsum, ih]
    by_cases h1 : yrI d f < y
    · rw [if_pos (by omega), if_pos h1, if_neg (by omega)]; omega
    · by_cases h2 : yrI d f = y
      · rw [if_pos (by omega), if_neg h1, if_pos h2]; omega
      · rw [if_neg (by omega), if_neg h1, if_neg h2]; omega
theorem Dsum_rng {d : Int} {l : List Fl} (h : ∀ f ∈ l, -1000000000000000 ≤ f.amt ∧ f.amt ≤ 1000000000000000) (y : Int) : -(1000000000000000 * (l.length : Int)) ≤ Dsum d l y ∧ Dsum d l y ≤ 1000000000000000 * (l.length : Int) := by
  induction l with
  | nil => simp [Dsum]
  | cons f l ih =>
    have := ih fun g hg => h g (List.mem_cons_of_mem _ hg)
    have := h f (List.mem_cons_self ..)
    rw [Dsum, List.length_cons, show ((l.length + 1 : Nat) : Int) = l.length + 1 by omega, Int.mul_add, Int.mul_one]
    split <;> omega
theorem Uof_rng' {d : Int} {l : List Fl} (h : ∀ f ∈ l, -1000000000000000 ≤ f.amt ∧ f.amt ≤ 1000000000000000) (y : Int) : -(1000000000000000 * (l.length : Int)) ≤ Uof d l y ∧ Uof d l y ≤ 1000000000000000 * (l.length : Int) := by
  induction l with
  | nil => simp [Uof]
  | cons f l ih =>
    have := ih fun g hg => h g (List.mem_cons_of_mem _ hg)
    have := h f (List.mem_cons_self ..)
    rw [Uof, List.length_cons, show ((l.length + 1 : Nat) : Int) = l.length + 1 by omega, Int.mul_add, Int.mul_one]
    split <;> omega
def negF (f : Fl) : Fl := ⟨f.day, -f.amt⟩
theorem Uof_neg (d : Int) (l : List Fl) (n : Int) : Uof d (l.map negF) n = -Uof d l n := by
  induction l with
  | nil => rfl
  | cons f l ih =>
    rw [List.map_cons, Uof, Uof, ih, show yrI d (negF f) = yrI d f from rfl, show (negF f).amt = -f.amt from rfl]
    split <;> omega
theorem Uof_app (d : Int) (l m : List Fl) (n : Int) : Uof d (l ++ m) n = Uof d l n + Uof d m n := by
  induction l with
  | nil => simp [Uof]
  | cons f l ih => rw [List.cons_append, Uof, Uof, ih]; omega
theorem mostY_app (d : Int) (l m : List Fl) : mostY d (l ++ m) = max (mostY d l) (mostY d m) := by
  induction l with
  | nil => have := mostY_nn d m; simp only [List.nil_append, mostY]; omega
  | cons f l ih => rw [List.cons_append, mostY, mostY, ih]; omega
def signed (a b : List Fl) : List Fl := a ++ b.map negF
theorem signed_len (a b : List Fl) : (signed a b).length = (a ++ b).length := by simp [signed]
theorem signed_at {a b : List Fl} {k : Nat} (hk : k < (a ++ b).length) : (nth (signed a b) k).day = (nth (a ++ b) k).day ∧ (nth (signed a b) k).amt = if k < a.length then (nth (a ++ b) k).amt else -(nth (a ++ b) k).amt := by
  rw [nth_eq (by rw [signed_len]; exact hk), nth_eq hk]
  unfold signed
  by_cases h : k < a.length
  · rw [List.getElem_append_left h, List.getElem_append_left h, if_pos h]
    exact ⟨rfl, rfl⟩
  · rw [List.getElem_append_right (by omega), List.getElem_append_right (by omega), if_neg h, List.getElem_map]
    exact ⟨rfl, rfl⟩
theorem dearer_ok (a b : List Fl) (d : Int) (hla : a.length ≤ 9223372036854775807) (hlb : b.length ≤ 9223372036854775807) (bb : Bool) (hbb : bb = true ↔ Dear a b d) : ACalls Try.prog 18 [slW a, slW b, cI d] (.pv (cB bb)) := by
  have p1 := pright_ok a d hla
  have p2 := pright_ok b d hlb
  by_cases h1 : flowsB a d = true ∧ flowsB b d = true
  case neg =>
    have e : bb = false := by
      rw [Bool.eq_false_iff]
      exact fun q => h1 ⟨(hbb.1 q).1.fl, (hbb.1 q).2.1.fl⟩
    subst e
    generalize flowsB a d = x at *
    generalize flowsB b d = y at *
    refine ACalls.of_W (qs := [cB false]) [6] 76 Try.func18 (by kernel_rfl) rfl rfl rfl fun G => ?_
    refine W.initA (hw := ?_)
    repeat' (first | ((first | apply U_ | (apply Ug_; exact rfl; exact rfl) | (apply Ugq_; exact rfl; exact rfl)); (first | exact QX.B TYok | exact QX.Num TYok | exact QX.Len TYok | exact QX.Idx TYok | exact QCd (p1) | exact QCd (p2)); exact rfl) | refine SX.Alloc TYok (h := ?_) | refine SX.Store TYok (h := ?_) | refine SX.Lit TYok (h := ?_) | refine SC ?_ | refine SG ?_ | (refine W.condA (ht := fun hb => ?_) (hf := fun hb => ?_) <;> (try simp at hb) <;> (try (exfalso; first | exact h1 hb | omega))))
    all_goals first
      | exact Fin.ret ResL.auto
      | trace_state
  rw [h1.1] at p1
  rw [h1.2] at p2
  have ra := flowsB_yes h1.1
  have rb := flowsB_yes h1.2
  have hdd := ra.1.1
  have cc := concat_ok [a, b] (by simp) (fun x hx => by
    rcases List.mem_cons.1 hx with rfl | hx
    · omega
    · rcases List.mem_cons.1 hx with rfl | hx
      · omega
      · cases hx)
  rw [show ([a, b] : List (List Fl)).flatten = a ++ b by simp] at cc
  have rC : ∀ f ∈ a ++ b, (0 ≤ f.day ∧ f.day ≤ 200000) ∧ (-1000000000000000 ≤ f.amt ∧ f.amt ≤ 1000000000000000) := fun f hf => by
    rcases List.mem_append.1 hf with h | h
    · exact ra.2 f h
    · exact rb.2 f h
  have lC : (a ++ b).length = a.length + b.length := List.length_append
  have rE : ∀ f ∈ signed a b, -1000000000000000 ≤ f.amt ∧ f.amt ≤ 1000000000000000 := fun f hf => by
    unfold signed at hf
    rcases List.mem_append.1 hf with h | h
    · exact (ra.2 f h).2
    · obtain ⟨g, hg, rfl⟩ := List.mem_map.1 h
      have := (rb.2 g hg).2
      show -1000000000000000 ≤ -g.amt ∧ -g.amt ≤ 1000000000000000
      omega
  have hsg := fun k (hk : k < (a ++ b).length) => signed_at hk
  have lE := signed_len a b
  refine ACalls.of_W (qs := [cB bb]) [6] 76 Try.func18 (by kernel_rfl) rfl rfl rfl fun G => ?_
  refine W.initA (hw := ?_)
  repeat' (first | ((first | apply U_ | (apply Ug_; exact rfl; exact rfl) | (apply Ugq_; exact rfl; exact rfl)); (first | (apply Q_litD TYok; (repeat (first | exact EvR.nil | apply EvR.cons Ev.auto)); exact rfl; exact rfl; exact rfl; exact rfl; exact rfl; exact rfl) | exact QX.B TYok | exact QX.Num TYok | exact QX.Len TYok | exact QX.Idx TYok | exact QCd (p1) | exact QCd (p2) | exact QCd (cc)); exact rfl) | refine SX.Alloc TYok (h := ?_) | refine SX.Store TYok (h := ?_) | refine SX.Lit TYok (h := ?_) | (apply S_makeMap TYok 0; exact rfl; exact rfl) | refine SC ?_ | refine SG ?_ | (refine W.condA (ht := fun hb => ?_) (hf := fun hb => ?_) <;> (try simp at hb) <;> (try (exfalso; omega))))
  apply W.loopP (σ := (Nat × List (Int × Int))) 76 [0, 2, 7, 28, 29] (fun z => z.1 ≤ (a ++ b).length ∧ (∀ j, j < z.1 → d ≤ (nth (a ++ b) j).day) ∧ ∀ y, mg z.2 y = Dsum d ((signed a b).take z.1) y) (fun z => [(30, vI z.1), (8, vI (mostY d ((a ++ b).take z.1)))]) (fun z => [(24, ⟨mapTag, 0, z.2.map (mrow kI cellI)⟩)]) (fun z => (a ++ b).length - z.1) ((0, []))
  case hp => repeat (first | exact Pick.nil | apply Pick.cons rfl)
  case h0 =>
    refine ⟨⟨by simp, fun j hj => by omega, fun y => rfl⟩, ?_⟩
    exact Le.auto
  case round =>
    rintro ⟨k, M⟩ ⟨g1, g2, g3⟩
    apply W.norm (by repeat (first | exact App.nil | apply App.cons))
    dsimp only
    simp only at g1 g2 g3
    by_cases hk : k < (a ++ b).length
    · have hm := nth_mem hk
      have f1 := rC _ hm
      obtain ⟨s1, s2⟩ := hsg k hk
      by_cases hd : (nth (a ++ b) k).day < d
      · have e : bb = false := by
          rw [Bool.eq_false_iff]
          intro q
          rcases List.mem_append.1 hm with h | h
          · have := (hbb.1 q).1.early _ h; omega
          · have := (hbb.1 q).2.1.early _ h; omega
        subst e
        generalize a ++ b = C at *
        repeat' (first | ((first | apply U_ | (apply Ug_; exact rfl; exact rfl) | (apply Ugq_; exact rfl; exact rfl)); (first | exact QX.B TYok | exact QX.Num TYok | exact QX.Len TYok | exact QX.Idx TYok); exact rfl) | refine SX.Alloc TYok (h := ?_) | refine SX.Store TYok (h := ?_) | refine SX.Lit TYok (h := ?_) | refine SC ?_ | refine SG ?_ | (refine W.condA (ht := fun hb => ?_) (hf := fun hb => ?_) <;> (try simp at hb) <;> (try (exfalso; omega))))
        all_goals first
          | exact Fin.ret ResL.auto
          | (exfalso; omega)
          | trace_state
      · have e2 := mostY_snoc d ((a ++ b).take k) (nth (a ++ b) k)
        rw [← take_nth hk] at e2
        have hy0 : 0 ≤ yrI d (nth (a ++ b) k) := by unfold yrI; omega
        have eyI : yrI d (nth (a ++ b) k) = ((nth (a ++ b) k).day - d) / 365 := rfl
        have eyE : yrI d (nth (signed a b) k) = yrI d (nth (a ++ b) k) := by unfold yrI; rw [s1]
        have dr := Dsum_rng (d := d) (l := (signed a b).take k) (fun f hf => rE f (List.mem_of_mem_take hf)) (yrI d (nth (a ++ b) k))
        have lt : (((signed a b).take k).length : Int) ≤ 800 := by simp; omega
        have f2 := f1.2
        have mg0 := g3 (yrI d (nth (a ++ b) k))
        have hst : ∀ v, v = mg M (yrI d (nth (a ++ b) k)) + (nth (signed a b) k).amt → (∀ y, mg (mput M (yrI d (nth (a ++ b) k)) v) y = Dsum d ((signed a b).take (k + 1)) y) := fun v hv y => by
          rw [mg_mput, take_nth (by rw [lE]; exact hk), Dsum_snoc, eyE, g3 y]
          by_cases e : yrI d (nth (a ++ b) k) = y
          · rw [if_pos e, if_pos e, hv, e, g3 y]
          · rw [if_neg e, if_neg e]; omega
        have hday : ∀ j, j < k + 1 → d ≤ (nth (a ++ b) j).day := fun j hj => by
          rcases Nat.lt_or_ge j k with q | q
          · exact g2 j q
          · obtain rfl : j = k := by omega
            omega
        rw [s2] at hst
        rw [← mg0] at dr
        generalize hC : a ++ b = C at *
        generalize mostY d (C.take k) = Y0 at *
        by_cases hka : k < a.length
        · rw [if_pos hka] at hst
          rw [eyI] at hst e2 hy0 dr
          repeat' (first | ((first | apply U_ | (apply Ug_; exact rfl; exact rfl) | (apply Ugq_; exact rfl; exact rfl)); (first | (apply Q_lookup TYok KI (vc := cellI) (M := M) (k := ((nth C k).day - d) / 365) (r := .one (.int .i64 (mg M (((nth C k).day - d) / 365)))); exact Ev.auto; exact rfl; exact Ev.auto; exact rfl; exact rfl; exact rfl; (unfold mg; cases mget M _ <;> rfl)) | exact QX.B TYok | exact QX.Num TYok | exact QX.Len TYok | exact QX.Idx TYok); exact rfl) | refine SX.Alloc TYok (h := ?_) | refine SX.Store TYok (h := ?_) | refine SX.Lit TYok (h := ?_) | (apply S_mapUpdate TYok KI (vc := cellI); exact Ev.auto; exact rfl; exact Ev.auto; exact Ev.auto; exact rfl; exact rfl; exact rfl) | refine SC ?_ | refine SG ?_ | (refine W.condA (ht := fun hb => ?_) (hf := fun hb => ?_) <;> (try simp at hb) <;> (try (exfalso; omega))))
          all_goals first
            | (refine ⟨(k + 1, _), ⟨by simp only; omega, hday, hst _ rfl⟩, ?_, by simp only; omega⟩; (try dsimp only); rw [e2]; exact Le.auto)
            | (exfalso; omega)
            | trace_state
        · rw [if_neg hka] at hst
          rw [eyI] at hst e2 hy0 dr
          have hst2 : ∀ v, v = mg M (((nth C k).day - d) / 365) - (nth C k).amt → (∀ y, mg (mput M (((nth C k).day - d) / 365) v) y = Dsum d ((signed a b).take (k + 1)) y) := fun v hv => hst v (by omega)
          repeat' (first | ((first | apply U_ | (apply Ug_; exact rfl; exact rfl) | (apply Ugq_; exact rfl; exact rfl)); (first | (apply Q_lookup TYok KI (vc := cellI) (M := M) (k := ((nth C k).day - d) / 365) (r := .one (.int .i64 (mg M (((nth C k).day - d) / 365)))); exact Ev.auto; exact rfl; exact Ev.auto; exact rfl; exact rfl; exact rfl; (unfold mg; cases mget M _ <;> rfl)) | exact QX.B TYok | exact QX.Num TYok | exact QX.Len TYok | exact QX.Idx TYok); exact rfl) | refine SX.Alloc TYok (h := ?_) | refine SX.Store TYok (h := ?_) | refine SX.Lit TYok (h := ?_) | (apply S_mapUpdate TYok KI (vc := cellI); exact Ev.auto; exact rfl; exact Ev.auto; exact Ev.auto; exact rfl; exact rfl; exact rfl) | refine SC ?_ | refine SG ?_ | (refine W.condA (ht := fun hb => ?_) (hf := fun hb => ?_) <;> (try simp at hb) <;> (try (exfalso; omega))))
          all_goals first
            | (refine ⟨(k + 1, _), ⟨by simp only; omega, hday, hst2 _ rfl⟩, ?_, by simp only; omega⟩; (try dsimp only); rw [e2]; exact Le.auto)
            | (exfalso; omega)
            | trace_state
    obtain rfl : k = (a ++ b).length := by omega
    have ia : LIn a d := ⟨h1.1, fun f hf => by
      obtain ⟨i, hi, rfl⟩ := List.getElem_of_mem hf
      have := g2 i (by omega)
      rw [nth_eq (by omega), List.getElem_append_left hi] at this
      exact this⟩
    have ib : LIn b d := ⟨h1.2, fun f hf => by
      obtain ⟨i, hi, rfl⟩ := List.getElem_of_mem hf
      have := g2 (a.length + i) (by omega)
      rw [nth_eq (by omega), List.getElem_append_right (by omega)] at this
      simpa using this⟩
    rw [dear_iff ia ib, ← mostY_app] at hbb
    rw [List.take_length]
    have g3' : ∀ y, mg M y = Dsum d (signed a b) y := fun y => by rw [g3 y, ← lE, List.take_length]
    have hdiff : ∀ n : Int, Uof d (signed a b) n = Uof d a n - Uof d b n := fun n => by
      unfold signed
      rw [Uof_app, Uof_neg]; omega
    have ur := Uof_rng' (d := d) rE
    have dr := Dsum_rng (d := d) rE
    have nx := Uof_next d (signed a b)
    have u0 : Uof d (signed a b) 0 = 0 := by
      rw [hdiff, Uof_zero ia.early (by omega), Uof_zero ib.early (by omega)]; rfl
    have m0 := mostY_nn d (a ++ b)
    have m1 := mostY_le (d := d) (l := a ++ b) (fun f hf => by
      rcases List.mem_append.1 hf with h | h
      · exact (ia.yr h).2
      · exact (ib.yr h).2)
    have lE2 : ((signed a b).length : Int) ≤ 800 := by rw [lE]; omega
    clear g1 g2 g3 hsg cc
    generalize signed a b = E at *
    generalize mostY d (a ++ b) = Y0 at *
    repeat' (first | ((first | apply U_ | (apply Ug_; exact rfl; exact rfl) | (apply Ugq_; exact rfl; exact rfl)); (first | exact QX.B TYok | exact QX.Num TYok | exact QX.Len TYok | exact QX.Idx TYok); exact rfl) | refine SX.Alloc TYok (h := ?_) | refine SX.Store TYok (h := ?_) | refine SX.Lit TYok (h := ?_) | refine SC ?_ | refine SG ?_ | (refine W.condA (ht := fun hb => ?_) (hf := fun hb => ?_) <;> (try simp at hb) <;> (try (exfalso; omega))))
    apply W.loopP (σ := Nat) 76 [7, 8] (fun k => ((k : Int) ≤ Y0 + 1) ∧ ∀ j : Nat, j < k → 0 ≤ Uof d E (j + 1)) (fun k => [(13, vI k), (12, vI (Uof d E k))]) (fun _ => [(24, ⟨mapTag, 0, M.map (mrow kI cellI)⟩)]) (fun k => (Y0 + 1).toNat - k) (0)
    case hp => repeat (first | exact Pick.nil | apply Pick.cons rfl)
    case h0 =>
      refine ⟨⟨by omega, fun j hj => by omega⟩, ?_⟩
      rw [show Uof d E ((0 : Nat) : Int) = 0 from u0]
      exact Le.auto
    case round =>
      rintro k ⟨gk, gq⟩
      apply W.norm (by repeat (first | exact App.nil | apply App.cons))
      by_cases hk : (k : Int) ≤ Y0
      · have n1 := nx (k : Int)
        rw [← g3' (k : Int)] at n1
        have r1 := ur (k : Int)
        have r2 := dr (k : Int)
        rw [← g3' (k : Int)] at r2
        have hd2 := hdiff ((k : Int) + 1)
        by_cases hlt : Uof d E ((k : Int) + 1) < 0
        · have e : bb = false := by
            rw [Bool.eq_false_iff]
            intro q
            have := hbb.1 q k hk
            omega
          subst e
          generalize Uof d E ((k : Int) + 1) = X1 at *
          generalize Uof d E (k : Int) = X at *
          repeat' (first | ((first | apply U_ | (apply Ug_; exact rfl; exact rfl) | (apply Ugq_; exact rfl; exact rfl)); (first | (apply Q_lookup TYok KI (vc := cellI) (M := M) (k := (k : Int)) (r := .one (.int .i64 (mg M (k : Int)))); exact Ev.auto; exact rfl; exact Ev.auto; exact rfl; exact rfl; exact rfl; (unfold mg; cases mget M _ <;> rfl)) | exact QX.B TYok | exact QX.Num TYok | exact QX.Len TYok | exact QX.Idx TYok); exact rfl) | refine SX.Alloc TYok (h := ?_) | refine SX.Store TYok (h := ?_) | refine SX.Lit TYok (h := ?_) | refine SC ?_ | refine SG ?_ | (refine W.condA (ht := fun hb => ?_) (hf := fun hb => ?_) <;> (try simp at hb) <;> (try (exfalso; omega))))
          all_goals first
            | exact Fin.ret ResL.auto
            | (exfalso; omega)
            | trace_state
        · have gq' : ∀ j : Nat, j < k + 1 → 0 ≤ Uof d E (j + 1) := fun j hj => by
            rcases Nat.lt_or_ge j k with q | q
            · exact gq j q
            · obtain rfl : j = k := by omega
              omega
          generalize hX1 : Uof d E ((k : Int) + 1) = X1 at *
          generalize Uof d E (k : Int) = X at *
          repeat' (first | ((first | apply U_ | (apply Ug_; exact rfl; exact rfl) | (apply Ugq_; exact rfl; exact rfl)); (first | (apply Q_lookup TYok KI (vc := cellI) (M := M) (k := (k : Int)) (r := .one (.int .i64 (mg M (k : Int)))); exact Ev.auto; exact rfl; exact Ev.auto; exact rfl; exact rfl; exact rfl; (unfold mg; cases mget M _ <;> rfl)) | exact QX.B TYok | exact QX.Num TYok | exact QX.Len TYok | exact QX.Idx TYok); exact rfl) | refine SX.Alloc TYok (h := ?_) | refine SX.Store TYok (h := ?_) | refine SX.Lit TYok (h := ?_) | refine SC ?_ | refine SG ?_ | (refine W.condA (ht := fun hb => ?_) (hf := fun hb => ?_) <;> (try simp at hb) <;> (try (exfalso; omega))))
          all_goals first
            | (refine ⟨k + 1, ⟨by omega, gq'⟩, ?_, by omega⟩; (try dsimp only); rw [show (((k + 1 : Nat)) : Int) = (k : Int) + 1 by omega, hX1, n1]; exact Le.auto)
            | (exfalso; omega)
            | trace_state
      · obtain rfl : bb = true := hbb.2 fun n hn => by
          have := gq n (by omega)
          have := hdiff ((n : Int) + 1)
          omega
        repeat' (first | ((first | apply U_ | (apply Ug_; exact rfl; exact rfl) | (apply Ugq_; exact rfl; exact rfl)); (first | exact QX.B TYok | exact QX.Num TYok | exact QX.Len TYok | exact QX.Idx TYok); exact rfl) | refine SX.Alloc TYok (h := ?_) | refine SX.Store TYok (h := ?_) | refine SX.Lit TYok (h := ?_) | refine SC ?_ | refine SG ?_ | (refine W.condA (ht := fun hb => ?_) (hf := fun hb => ?_) <;> (try simp at hb) <;> (try (exfalso; omega))))
        all_goals first
          | exact Fin.ret ResL.auto
          | (exfalso; omega)
          | trace_state
end
end Go.Proofs.Ytgpcmgjdkefdjaa
end
section
set_option linter.unusedVariables false
set_option linter.unusedSimpArgs false
set_option maxHeartbeats 8000000
set_option linter.unusedSectionVars false
namespace Go.Proofs.Ytgpcmgjdkefdjaa
open Lf Go
attribute [local irreducible] PureOp EffOp Ev RG W Then InBlock Lf.Fin nth App InitE Pick EvL EvD EvP EvR ResL Lf.Lex SubR SubBR RA RAll EvC FinO FinM ResM ResD FinS val pw digs trimL
section
theorem fqOf_right {r : Rat} (h : okF r) : (fqOf r).right = true := by
  have hp := den_pos r
  unfold Fq.right fqOf rightFB
  have c := sgn_cases r.den
  rw [num_right h.1, num_right h.2, decide_eq_true (show sgn r.den = 1 by omega), val_mag, val_mag, sgn_mag, show mag r.den = r.den by omega, num_den_gcd]; rfl
theorem nth_fq {R : List Rat} {k : Nat} (hk : k < R.length) : nth (R.map fqOf) k = fqOf (nth R k) := by
  rw [nth_eq (by simpa using hk), List.getElem_map, nth_eq hk]
theorem FOk_of {R : List Rat} (ok : ∀ r ∈ R, okF r) (hl : 1 ≤ R.length ∧ R.length ≤ 60) (h : ∀ k, k < R.length → 0 < nth R k ∧ nth R k ≤ if k = 0 then 1 else nth R (k - 1)) : FOk (R.map fqOf) := by
  refine ⟨fun k hk => ?_, by simpa using hl⟩
  have hk' : k < R.length := by simpa using hk
  have o := ok _ (nth_mem hk')
  obtain ⟨h1, h2⟩ := h k hk'
  unfold chk
  rw [nth_fq hk', fqOf_val o]
  refine ⟨fqOf_right o, h1, ?_⟩
  unfold prv
  by_cases e : k = 0
  · rw [if_pos e] at h2 ⊢
    exact h2
  · rw [if_neg e] at h2 ⊢
    rw [nth_fq (by omega), fqOf_val (ok _ (nth_mem (by omega)))]
    exact h2
theorem fewF_of {R : List Rat} (h : ∀ r ∈ R, bd r 6) : fewF (R.map fqOf) := fun q hq => by
  obtain ⟨r, hr, rfl⟩ := List.mem_map.1 hq
  obtain ⟨h1, h2⟩ := h r hr
  have a := sgn_cases r.num
  have b := sgn_cases r.den
  exact ⟨(digs_len (mag_nn _)).2 (by omega), (digs_len (mag_nn _)).2 (by omega)⟩
theorem few_FqOk {L : List Fq} (h : fewF L) : ∀ q ∈ L, FqOk q := fun q hq => by
  have := h q hq
  unfold FqOk
  omega
theorem addsOk_few {l : List Fl} {d : Int} {L : List Fq} (hv : VIn l d L) (h : l.length ≤ 4) : addsOk L d l := by
  have key : ∀ k, k ≤ l.length → bd (vsum L d l k) (4 + 11 * k) := by
    intro k
    induction k with
    | zero => exact fun _ => int_bd (n := 0) (by omega)
    | succ k ih =>
      intro hk
      have b := ih (by omega)
      have t := (hv.term_bd (k := k) (by omega)).2.1
      exact (add_bd (k := 4 + 11 * k + 10) (by omega) b t (by omega)).1
  intro j hj
  exact (add_bd (k := 4 + 11 * j + 10) (by omega) (key j (by omega)) (hv.term_bd hj).2.1 (by omega)).2
attribute [local irreducible] sgn mag gcdZ quoZ remZ fullZ fullE
theorem of_ok (n m : Int) (h : i64B n) (hm : i64B m) (h0 : m ≠ 0) : ACalls Try.prog 25 [cI n, cI m] (.pv (zF (Rat.divInt n m))) := by
  have n1 := qOf_ok n m h hm h0
  generalize Rat.divInt n m = r at *
  refine ACalls.of_M TYok (qs := [zF r]) [.cell 4 31] 8 Try.func25 (by kernel_rfl) rfl rfl rfl fun G => ?_
  refine W.initA (hw := ?_)
  repeat' (first | ((first | apply U_); (first | exact QX.B TYok | exact QCd (n1)); exact rfl) | refine SX.Alloc TYok (h := ?_) | refine SX.Store TYok (h := ?_) | refine SC ?_ | (refine W.condA (ht := fun hb => ?_) (hf := fun hb => ?_) <;> (try simp at hb) <;> (try (exfalso; omega))))
  all_goals exact FinM.ret ResM.auto
theorem ofw_ok (n : Int) (h : i64B n) : ACalls Try.prog 25 [cI n, cI 1] (.pv (zF (n : Rat))) := by
  rw [← divInt_one]
  exact of_ok n 1 h (by unfold i64B; omega) (by omega)
theorem ints_same (l : List Int) (hl : l.length ≤ 20) : ACalls Try.prog 15 [slI' l, slI' l] (.pv (cB true)) := by
  refine ACalls.of_W (qs := [cB true]) [4] 26 Try.func15 (by kernel_rfl) rfl rfl rfl fun G => ?_
  refine W.initA (hw := ?_)
  repeat' (first | (exfalso; omega) | ((first | apply U_ | apply Lex.u | (apply Lex.g; exact rfl; exact rfl) | (apply Lex.gq; exact rfl; exact rfl)); (first | exact QX.B TYok | exact QX.Len TYok | exact QX.Idx TYok); exact rfl) | refine SC ?_ | (apply W.draw2 (id := 6) [0, 0, 3, 7, 0, 0, 48, 112, 255] [[0], [5], [17, 18], [19], [1], [5], [21, 22], [23], [20, 24]] 9 [(17, 1), (18, 32), (19, 393216), (20, 524288), (21, 2), (22, 32), (23, 6291456), (24, 8388608), (25, 17825792)] mixed (by kernel_rfl) rfl rfl) | (refine W.condA (ht := fun hb => ?_) (hf := fun hb => ?_) <;> (try simp at hb) <;> (try (exfalso; omega))))
  apply W.loopP (σ := Nat) 26 [0, 1] (fun k => k ≤ l.length) (fun k => [(5, vI k)]) (fun _ => []) (fun k => l.length - k) (0)
  case hp => repeat (first | exact Pick.nil | apply Pick.cons rfl)
  case h0 =>
    refine ⟨by simp, ?_⟩
    exact Le.auto
  case round =>
    rintro k g1
    apply W.norm (by repeat (first | exact App.nil | apply App.cons))
    by_cases hk : k < l.length
    · repeat' (first | ((first | apply U_ | apply Lex.u | (apply Lex.g; exact rfl; exact rfl) | (apply Lex.gq; exact rfl; exact rfl)); (first | exact QX.B TYok | exact QX.Len TYok | exact QX.Idx TYok); exact rfl) | refine SC ?_ | (apply W.draw2 (id := 6) [0, 0, 3, 7, 0, 0, 48, 112, 255] [[0], [5], [17, 18], [19], [1], [5], [21, 22], [23], [20, 24]] 9 [(17, 1), (18, 32), (19, 393216), (20, 524288), (21, 2), (22, 32), (23, 6291456), (24, 8388608), (25, 17825792)] mixed (by kernel_rfl) rfl rfl) | (refine W.condA (ht := fun hb => ?_) (hf := fun hb => ?_) <;> (try simp at hb) <;> (try (exfalso; omega))))
      all_goals first
        | (refine ⟨k + 1, by omega, ?_, by omega⟩; exact Le.auto)
        | (exfalso; omega)
        | trace_state
    · obtain rfl : k = l.length := by omega
      repeat' (first | ((first | apply U_ | apply Lex.u | (apply Lex.g; exact rfl; exact rfl) | (apply Lex.gq; exact rfl; exact rfl)); (first | exact QX.B TYok | exact QX.Len TYok | exact QX.Idx TYok); exact rfl) | refine SC ?_ | (apply W.draw2 (id := 6) [0, 0, 3, 7, 0, 0, 48, 112, 255] [[0], [5], [17, 18], [19], [1], [5], [21, 22], [23], [20, 24]] 9 [(17, 1), (18, 32), (19, 393216), (20, 524288), (21, 2), (22, 32), (23, 6291456), (24, 8388608), (25, 17825792)] mixed (by kernel_rfl) rfl rfl) | (refine W.condA (ht := fun hb => ?_) (hf := fun hb => ?_) <;> (try simp at hb) <;> (try (exfalso; omega))))
      all_goals first
        | exact Fin.ret ResL.auto
        | trace_state
theorem few_ok (l : List Fl) (L : List Fq) (hl : l.length ≤ 9223372036854775807) (hL : L.length ≤ 9223372036854775807) (b : Bool) (hbb : b = true ↔ (l.length ≤ 20 ∧ L.length ≤ 12) ∧ fewF L) : ACalls Try.prog 9 [slW l, slF L] (.pv (cB b)) := by
  refine ACalls.of_W (qs := [cB b]) [4] 42 Try.func9 (by kernel_rfl) rfl rfl rfl fun G => ?_
  refine W.initA (hw := ?_)
  repeat' (first | ((first | apply U_ | (apply Ug_; exact rfl; exact rfl) | (apply Ugq_; exact rfl; exact rfl)); (first | exact QX.B TYok | exact QX.Len TYok | exact QX.Idx TYok); exact rfl) | refine SC ?_ | refine SG ?_ | (refine W.condA (ht := fun hb => ?_) (hf := fun hb => ?_) <;> (try simp at hb) <;> (try (exfalso; omega))))
  apply W.loopP (σ := Nat) 42 [0, 1] (fun k => k ≤ L.length ∧ k ≤ 13 ∧ ∀ j, j < k → (nth L j).d.length ≤ 6 ∧ (nth L j).d'.length ≤ 6) (fun k => [(5, vI k)]) (fun _ => []) (fun k => L.length - k) (0)
  case hp => repeat (first | exact Pick.nil | apply Pick.cons rfl)
  case h0 =>
    refine ⟨⟨by omega, by omega, fun j hj => by omega⟩, ?_⟩
    exact Le.auto
  case round =>
    rintro k ⟨g1, g2, g3⟩
    apply W.norm (by repeat (first | exact App.nil | apply App.cons))
    by_cases hk : k < L.length ∧ k ≤ 12
    · by_cases hw : (nth L k).d.length ≤ 6 ∧ (nth L k).d'.length ≤ 6
      · repeat' (first | ((first | apply U_ | (apply Ug_; exact rfl; exact rfl) | (apply Ugq_; exact rfl; exact rfl)); (first | exact QX.B TYok | exact QX.Len TYok | exact QX.Idx TYok); exact rfl) | refine SC ?_ | refine SG ?_ | (refine W.condA (ht := fun hb => ?_) (hf := fun hb => ?_) <;> (try simp at hb) <;> (try (exfalso; omega))))
        all_goals first
          | (refine ⟨k + 1, ⟨by omega, by omega, fun j hj => ?_⟩, ?_, by omega⟩
             · rcases Nat.lt_or_ge j k with q | q
               · exact g3 j q
               · obtain rfl : j = k := by omega
                 exact hw
             · exact Le.auto)
          | (exfalso; omega)
          | trace_state
      · have e : b = false := by
          rw [Bool.eq_false_iff]
          exact fun q => hw ((hbb.1 q).2 _ (nth_mem hk.1))
        subst e
        repeat' (first | ((first | apply U_ | (apply Ug_; exact rfl; exact rfl) | (apply Ugq_; exact rfl; exact rfl)); (first | exact QX.B TYok | exact QX.Len TYok | exact QX.Idx TYok); exact rfl) | refine SC ?_ | refine SG ?_ | (refine W.condA (ht := fun hb => ?_) (hf := fun hb => ?_) <;> (try simp at hb) <;> (try (exfalso; omega))))
        all_goals first
          | exact Fin.ret ResL.auto
          | (exfalso; omega)
          | trace_state
    · have e : b = (decide ((l.length : Int) ≤ 20) && decide ((L.length : Int) ≤ 12)) := by
        rw [Bool.eq_iff_iff, hbb, Bool.and_eq_true, decide_eq_true_iff, decide_eq_true_iff]
        constructor
        · rintro ⟨⟨h1, h2⟩, _⟩; omega
        · rintro ⟨h1, h2⟩
          refine ⟨by omega, fun q hq => ?_⟩
          obtain ⟨i, hi, rfl⟩ := List.getElem_of_mem hq
          rw [← nth_eq hi]
          exact g3 i (by omega)
      subst e
      clear hbb
      repeat' (first | ((first | apply U_ | (apply Ug_; exact rfl; exact rfl) | (apply Ugq_; exact rfl; exact rfl)); (first | exact QX.B TYok | exact QX.Len TYok | exact QX.Idx TYok); exact rfl) | refine SC ?_ | refine SG ?_ | (refine W.condA (ht := fun hb => ?_) (hf := fun hb => ?_) <;> (try simp at hb) <;> (try (exfalso; omega))))
      all_goals first
        | exact Fin.ret ResL.auto
        | (exfalso; omega)
        | trace_state
/-- what Cost of both returns -/
theorem cost_both (l : List Fl) (d : Int) (S : List (List Fq)) (hl : l.length ≤ 9223372036854775807) (hS : S.length ≤ 9223372036854775807) (hok : SOk S) : ∃ V e, ACalls Try.prog 12 [slW l, cI d, slS S] (.tup [slI' V, cI e]) ∧ ACalls Try.prog 13 [slW l, cI d, slS S] (.tup [slI' V, cI e]) ∧ (e ≠ 0 → V = []) ∧
    (e = 0 → (1 ≤ S.length ∧ S.length ≤ 20) ∧ allZero l d S S.length ∧ V = (S.map (vS l d)).map ceilR ∧ ∀ j, j < S.length → goodB (vS l d (nth S j)) = true) ∧ ((1 ≤ S.length ∧ S.length ≤ 20) → allZero l d S S.length → (∀ j, j < S.length → goodB (vS l d (nth S j)) = true) → e = 0) := by
  by_cases h : 1 ≤ S.length ∧ S.length ≤ 20
  case neg =>
    obtain ⟨c1, c2⟩ := cost_arg l d S hl hS hok h
    exact ⟨[], 1, c1, c2, fun _ => rfl, fun q => absurd q (by decide), fun q => absurd q h⟩
  by_cases hz : allZero l d S S.length
  case neg =>
    obtain ⟨n, n1, n2⟩ := least_ex (p := fun j => j < S.length ∧ valE l d (nth S j) ≠ 0) (Classical.choose (Classical.not_forall.1 hz)) (by
      have := Classical.choose_spec (Classical.not_forall.1 hz)
      exact Classical.not_imp.1 this)
    have hz' : allZero l d S n := fun j hj => Classical.not_not.1 fun q => n2 j hj ⟨by omega, q⟩
    exact ⟨[], _, cost_fail l d S hl hS hok h n n1.1 hz' n1.2, rcost_fail l d S hl hS hok h n n1.1 hz' n1.2, fun _ => rfl, fun q => absurd q n1.2, fun _ q => absurd q hz⟩
  by_cases hg : ∀ j, j < S.length → goodB (vS l d (nth S j)) = true
  · exact ⟨_, 0, cost_walk l d S hl hS hok h hz S.length (Nat.le_refl _) hg _ 0 (.inl ⟨rfl, rfl, rfl⟩), rcost_walk l d S hl hS hok h hz _ 0 (.inl ⟨rfl, hg, rfl⟩), fun q => absurd rfl q, fun _ => ⟨h, hz, rfl, hg⟩, fun _ _ _ => rfl⟩
  · obtain ⟨n, n1, n2⟩ := least_ex (p := fun j => j < S.length ∧ goodB (vS l d (nth S j)) = false) (Classical.choose (Classical.not_forall.1 hg)) (by
      have := Classical.choose_spec (Classical.not_forall.1 hg)
      have := Classical.not_imp.1 this
      exact ⟨this.1, Bool.not_eq_true _ ▸ this.2⟩)
    have hg' : ∀ j, j < n → goodB (vS l d (nth S j)) = true := fun j hj => by
      have := n2 j hj
      cases e : goodB (vS l d (nth S j)) with
      | true => rfl
      | false => exact absurd ⟨by omega, e⟩ this
    exact ⟨[], 3, cost_walk l d S hl hS hok h hz n (by omega) hg' _ 3 (.inr ⟨rfl, n1.1, n1.2, rfl⟩), rcost_walk l d S hl hS hok h hz _ 3 (.inr ⟨rfl, ⟨n, n1⟩, rfl⟩), fun _ => rfl, fun q => absurd q (by decide), fun _ _ q => absurd q hg⟩
end
end Go.Proofs.Ytgpcmgjdkefdjaa
end
section
set_option linter.unusedVariables false
set_option linter.unusedSimpArgs false
set_option maxHeartbeats 8000000
set_option linter.unusedSectionVars false
namespace Go.Proofs.Ytgpcmgjdkefdjaa
open Lf Go
attribute [local irreducible] PureOp EffOp Ev RG W Then InBlock Lf.Fin nth App InitE Pick EvL EvD EvP EvR ResL Lf.Lex SubR SubBR RA RAll EvC FinO FinM ResM ResD FinS val pw digs trimL
section
def sR : List Rat := [Rat.divInt 1 1, Rat.divInt 9 10, Rat.divInt 1 2]
def sR2 : List Rat := [Rat.divInt 1 1, Rat.divInt 1 3]
theorem sR_ok : (∀ k, k < 3 → 0 < nth sR k ∧ nth sR k ≤ if k = 0 then 1 else nth sR (k - 1)) ∧ (∀ k, k < 2 → 0 < nth sR2 k ∧ nth sR2 k ≤ if k = 0 then 1 else nth sR2 (k - 1)) := by
  constructor
  · intro k hk
    match k, hk with
    | 0, _ => decide +kernel
    | 1, _ => decide +kernel
    | 2, _ => decide +kernel
  · intro k hk
    match k, hk with
    | 0, _ => decide +kernel
    | 1, _ => decide +kernel
theorem bdc {p q : Int} (hp : -1208925819614629174706176 < p ∧ p < 1208925819614629174706176) (hq : -1208925819614629174706176 < q ∧ q < 1208925819614629174706176) (h : q ≠ 0) : bd (Rat.divInt p q) 6 := by
  have e := pw4
  exact bd_mono (bd_div (n := 4) h (by omega) (by omega)) (by omega)
theorem sR_bd : (∀ r ∈ sR, bd r 6) ∧ ∀ r ∈ sR2, bd r 6 := by
  constructor
  · intro r hr
    unfold sR at hr
    rcases List.mem_cons.1 hr with rfl | hr
    · exact bdc (by omega) (by omega) (by omega)
    rcases List.mem_cons.1 hr with rfl | hr
    · exact bdc (by omega) (by omega) (by omega)
    rcases List.mem_cons.1 hr with rfl | hr
    · exact bdc (by omega) (by omega) (by omega)
    · cases hr
  · intro r hr
    unfold sR2 at hr
    rcases List.mem_cons.1 hr with rfl | hr
    · exact bdc (by omega) (by omega) (by omega)
    rcases List.mem_cons.1 hr with rfl | hr
    · exact bdc (by omega) (by omega) (by omega)
    · cases hr
theorem bd6_ok {R : List Rat} (h : ∀ r ∈ R, bd r 6) : ∀ r ∈ R, okF r := fun r hr => bd_ok (h r hr) (by omega)
theorem sFOk : FOk (sR.map fqOf) ∧ FOk (sR2.map fqOf) := ⟨FOk_of (bd6_ok sR_bd.1) (by decide) sR_ok.1, FOk_of (bd6_ok sR_bd.2) (by decide) sR_ok.2⟩
/-- the value with factors that are given as1 numbers -/
def vsumR (R : List Rat) (d : Int) (l : List Fl) : Nat → Rat
  | 0 => 0
  | k + 1 => vsumR R d l k + ((nth l k).amt : Rat) * nth R (yrI d (nth l k)).toNat
theorem vsumR_eq {R : List Rat} (ok : ∀ r ∈ R, okF r) {d : Int} {l : List Fl} (h : ∀ k, k < l.length → (yrI d (nth l k)).toNat < R.length) : ∀ n, n ≤ l.length → vsum (R.map fqOf) d l n = vsumR R d l n
  | 0, _ => rfl
  | n + 1, hn => by
    have hk := h n (by omega)
    rw [vsum, vsumR, vsumR_eq ok h n (by omega), term, nth_fq hk, fqOf_val (ok _ (nth_mem hk))]
def s1 : List Fl := [⟨100, 10⟩, ⟨465, 20⟩, ⟨900, 30⟩]
def s2 : List Fl := [⟨99, 10⟩]
def s3 : List Fl := [⟨1195, 10⟩]
def s4 : List Fl := [⟨500, 5⟩]
theorem s1_vin : VIn s1 100 (sR.map fqOf) := ⟨by decide +kernel, sFOk.1, fewF_of sR_bd.1, by decide +kernel, by decide +kernel⟩
theorem s4_vin : VIn s4 100 (sR.map fqOf) ∧ VIn s4 100 (sR2.map fqOf) := ⟨⟨by decide +kernel, sFOk.1, fewF_of sR_bd.1, by decide +kernel, by decide +kernel⟩, ⟨by decide +kernel, sFOk.2, fewF_of sR_bd.2, by decide +kernel, by decide +kernel⟩⟩
theorem s1_val : vsum (sR.map fqOf) 100 s1 3 = Rat.divInt 43 1 := by
  rw [vsumR_eq (bd6_ok sR_bd.1) (by decide +kernel) 3 (by decide)]
  decide +kernel
theorem s4_val : vsum (sR.map fqOf) 100 s4 1 = Rat.divInt 9 2 ∧ vsum (sR2.map fqOf) 100 s4 1 = Rat.divInt 5 3 := by
  rw [vsumR_eq (bd6_ok sR_bd.1) (by decide +kernel) 1 (by decide), vsumR_eq (bd6_ok sR_bd.2) (by decide +kernel) 1 (by decide)]
  decide +kernel
theorem s_e : valE s2 100 (sR.map fqOf) = 20 ∧ valE s3 100 (sR.map fqOf) = 3 := by
  constructor
  · unfold valE
    rw [if_neg (fun q => q ⟨by decide +kernel, sFOk.1⟩), if_pos (by decide +kernel)]
  · unfold valE
    rw [if_neg (fun q => q ⟨by decide +kernel, sFOk.1⟩), if_neg (by decide +kernel), if_pos (by decide +kernel)]
theorem s_ceil : (ceilR (Rat.divInt 9 2) = 5 ∧ goodB (Rat.divInt 9 2) = true) ∧ (ceilR (Rat.divInt 5 3) = 2 ∧ goodB (Rat.divInt 5 3) = true) := by decide +kernel
def t1 : List Fl := [⟨100, 10⟩]
def t2 : List Fl := [⟨500, 10⟩]
def t3 : List Fl := [⟨100, 10⟩, ⟨500, 5⟩]
def t4 : List Fl := [⟨100, 4⟩, ⟨500, 12⟩]
theorem s_dear : Dear t1 t2 100 ∧ ¬ Dear t2 t1 100 ∧ ¬ Dear t3 t4 100 := by
  have a1 : LIn t1 100 := ⟨by decide +kernel, by decide +kernel⟩
  have a2 : LIn t2 100 := ⟨by decide +kernel, by decide +kernel⟩
  refine ⟨(dear_iff a1 a2).2 fun n hn => ?_, fun q => ?_, fun q => ?_⟩
  · have hn : (n : Int) ≤ 1 := hn
    match n, hn with
    | 0, _ => decide +kernel
    | 1, _ => decide +kernel
  · have := q.2.2 1
    revert this
    decide +kernel
  · have := q.2.2 2
    revert this
    decide +kernel
open Classical in
theorem small_ok : ACalls Try.prog 8 [] (.pv (cB true)) := by
  have ix : ∀ n : Int, (-1000 ≤ n ∧ n ≤ 1000) → i64B n := fun n h => by unfold i64B; omega
  have o1 := of_ok 1 1 (ix _ (by omega)) (ix _ (by omega)) (by omega)
  have o2 := of_ok 9 10 (ix _ (by omega)) (ix _ (by omega)) (by omega)
  have o3 := of_ok 1 2 (ix _ (by omega)) (ix _ (by omega)) (by omega)
  have o4 := of_ok 1 3 (ix _ (by omega)) (ix _ (by omega)) (by omega)
  have o5 := of_ok 43 1 (ix _ (by omega)) (ix _ (by omega)) (by omega)
  have f1 := fewF_of sR_bd.1
  have f2 := fewF_of sR_bd.2
  have v1 := (value_both s1 100 (sR.map fqOf) (by decide) (by decide) (few_FqOk f1) f1).1
  have v2 := (value_both s2 100 (sR.map fqOf) (by decide) (by decide) (few_FqOk f1) f1).1
  have v3 := (value_both s3 100 (sR.map fqOf) (by decide) (by decide) (few_FqOk f1) f1).1
  have e1 := valE_ok s1_vin (addsOk_few s1_vin (by decide))
  rw [show valV s1 100 (sR.map fqOf) = zF (Rat.divInt 43 1) from by unfold valV; rw [if_pos e1]; exact congrArg zF s1_val, e1] at v1
  rw [show valV s2 100 (sR.map fqOf) = zF0 from if_neg (by rw [s_e.1]; decide), s_e.1] at v2
  rw [show valV s3 100 (sR.map fqOf) = zF0 from if_neg (by rw [s_e.2]; decide), s_e.2] at v3
  have z1 := valE_ok s4_vin.1 (addsOk_few s4_vin.1 (by decide))
  have z2 := valE_ok s4_vin.2 (addsOk_few s4_vin.2 (by decide))
  have two : ∀ s, s ∈ [sR.map fqOf, sR2.map fqOf] → s = sR.map fqOf ∨ s = sR2.map fqOf := fun s hs => by simpa using hs
  have so1 : ∀ s ∈ [sR.map fqOf, sR2.map fqOf], fewF s := fun s hs => by
    rcases two s hs with rfl | rfl
    · exact f1
    · exact f2
  have so2 : ∀ s ∈ [sR.map fqOf, sR2.map fqOf], s.length ≤ 9223372036854775807 := fun s hs => by
    rcases two s hs with rfl | rfl <;> decide
  have so : SOk [sR.map fqOf, sR2.map fqOf] := ⟨so1, so2, fun s hs => few_FqOk (so1 s hs)⟩
  have n0 : nth [sR.map fqOf, sR2.map fqOf] 0 = sR.map fqOf := by rw [nth_eq (by simp)]; rfl
  have n1 : nth [sR.map fqOf, sR2.map fqOf] 1 = sR2.map fqOf := by rw [nth_eq (by simp)]; rfl
  obtain ⟨V, e, c1, _, _, c2, c3⟩ := cost_both s4 100 [sR.map fqOf, sR2.map fqOf] (by decide) (by decide) so
  have q1 : vS s4 100 (sR.map fqOf) = Rat.divInt 9 2 := s4_val.1
  have q2 : vS s4 100 (sR2.map fqOf) = Rat.divInt 5 3 := s4_val.2
  have e0 : e = 0 := c3 (by decide) (fun j hj => by
    match j, hj with
    | 0, _ => rw [n0]; exact z1
    | 1, _ => rw [n1]; exact z2) (fun j hj => by
    match j, hj with
    | 0, _ => rw [n0, q1]; exact s_ceil.1.2
    | 1, _ => rw [n1, q2]; exact s_ceil.2.2)
  have eV : V = [5, 2] := by
    rw [(c2 e0).2.2.1]
    simp only [List.map_cons, List.map_nil, q1, q2, s_ceil.1.1, s_ceil.2.1]
  subst e0 eV
  have i1 := ints_same [5, 2] (by decide)
  have m1 := same_any (sgn (Rat.divInt 43 1).num) (digs (mag (Rat.divInt 43 1).num)) (sgn (Rat.divInt 43 1).den) (digs (mag (Rat.divInt 43 1).den)) (by have := num_len (okF_of (x := 43) (y := 1) (i64_ok (ix _ (by omega))) (i64_ok (ix _ (by omega))) (by omega)).1; omega) (by have := num_len (okF_of (x := 43) (y := 1) (i64_ok (ix _ (by omega))) (i64_ok (ix _ (by omega))) (by omega)).2; omega)
  have d1 := dearer_ok t1 t2 100 (by decide) (by decide) true (by simp [s_dear.1])
  have d2 := dearer_ok t2 t1 100 (by decide) (by decide) false (by simp [s_dear.2.1])
  have d3 := dearer_ok t3 t4 100 (by decide) (by decide) false (by simp [s_dear.2.2])
  have k1 := pfac_ok (sR.map fqOf) (by decide) (few_FqOk f1) true (by simp [sFOk.1])
  have k2 := pfac_ok [] (by decide) (fun q hq => by cases hq) false (by simp [FOk])
  rw [show slF (sR.map fqOf) = slQ sR from by rw [slF, slF_of]] at v1 v2 v3 k1
  rw [show slS [sR.map fqOf, sR2.map fqOf] = .one (.sl [[.sl (sR.map encQ)], [.sl (sR2.map encQ)]]) from by rw [slS]; simp only [List.map_cons, List.map_nil, encS, slF_of]] at c1
  clear c2 c3 q1 q2 two so1 so2 n0 n1 so z1 z2 f1 f2 e1 ix
  unfold sR at v1 v2 v3 k1 c1
  unfold sR2 at c1
  unfold s1 at v1
  unfold s2 at v2
  unfold s3 at v3
  unfold s4 at c1
  unfold t1 t2 at d1 d2
  unfold t3 t4 at d3
  generalize Rat.divInt 1 1 = r1 at *
  generalize Rat.divInt 9 10 = r2 at *
  generalize Rat.divInt 1 2 = r3 at *
  generalize Rat.divInt 1 3 = r4 at *
  generalize Rat.divInt 43 1 = r5 at *
  refine ACalls.of_W (qs := [cB true]) [0] 116 Try.func8 (by kernel_rfl) rfl rfl rfl fun G => ?_
  refine W.initA (hw := ?_)
  repeat' (first | (refine W.weaken (Le.freeze1 (m := 51) rfl) ?_; apply W.region (id := 8)) | ((first | apply U_ | (apply Ug_; exact rfl; exact rfl) | (apply Ugq_; exact rfl; exact rfl)); (first | (apply Q_litD TYok; apply EvR.cons Ev.auto; (repeat (first | exact EvR.nil | apply EvR.cons Ev.auto)); exact rfl; exact rfl; exact rfl; exact rfl; exact rfl; exact rfl) | exact QX.B TYok | exact QX.Ext TYok | exact QX.Build TYok | exact QCd (o1) | exact QCd (o2) | exact QCd (o3) | exact QCd (o4) | exact QCd (o5) | exact QCd (v1) | exact QCd (v2) | exact QCd (v3) | exact QCd (c1) | exact QCd (i1) | exact QCd (m1) | exact QCd (d1) | exact QCd (d2) | exact QCd (d3) | exact QCd (k1) | exact QCd (k2)); exact rfl) | refine SX.Alloc TYok (h := ?_) | refine SX.Store TYok (h := ?_) | refine SX.Lit TYok (h := ?_) | refine SX.App TYok (h := ?_) | (apply S_appendd TYok; exact Ev.auto; exact Ev.auto; exact rfl; exact rfl; exact rfl; exact rfl; exact rfl; exact rfl; exact rfl; exact rfl; (intro r hr; first | (obtain ⟨_, _, rfl⟩ := List.mem_map.1 hr; rfl) | (obtain rfl := List.mem_singleton.1 hr; rfl)); (constructor <;> simp <;> omega); exact rfl) | refine SC ?_ | (apply S_isnil TYok; exact rfl; exact rfl; exact rfl; exact Ev.auto; intro bn hnil) | refine SG ?_ | (refine W.drawA (id := 10) (L := [false, false, false, false, false, false, false, false, false, false, false, false, false, false, false, false, false, false, false, false, false, false, false, false, false]) mixed rfl ?_) | exact RAll.nil | (refine RAll.cons rfl ?_ ?_) | (refine RA.step (L := [false, false, false, false, false, false, false, false, false, false, false, false, false, false, false, false, false, false, false, false, false, false, false, false, false]) (i := 0) (is := []) (by kernel_rfl) ?_) | (refine RA.step (L := [true, false, false, false, false, false, false, false, false, false, false, false, false, false, false, false, false, false, false, false, false, false, false, false, false]) (i := 1) (is := []) (by kernel_rfl) ?_) | (refine RA.step (L := [true, true, false, false, false, false, false, false, false, false, false, false, false, false, false, false, false, false, false, false, false, false, false, false, false]) (i := 2) (is := []) (by kernel_rfl) ?_) | (refine RA.step (L := [true, true, true, false, false, false, false, false, false, false, false, false, false, false, false, false, false, false, false, false, false, false, false, false, false]) (i := 3) (is := [4]) (by kernel_rfl) ?_) | (refine RA.step (L := [true, true, true, false, true, false, false, false, false, false, false, false, false, false, false, false, false, false, false, false, false, false, false, false, false]) (i := 3) (is := []) (by kernel_rfl) ?_) | (refine RA.step (L := [true, true, true, true, true, false, false, false, false, false, false, false, false, false, false, false, false, false, false, false, false, false, false, false, false]) (i := 5) (is := []) (by kernel_rfl) ?_) | (refine RA.step (L := [true, true, true, true, true, true, false, false, false, false, false, false, false, false, false, false, false, false, false, false, false, false, false, false, false]) (i := 6) (is := []) (by kernel_rfl) ?_) | (refine RA.step (L := [true, true, true, true, true, true, true, false, false, false, false, false, false, false, false, false, false, false, false, false, false, false, false, false, false]) (i := 7) (is := []) (by kernel_rfl) ?_) | (refine RA.step (L := [true, true, true, true, true, true, true, true, false, false, false, false, false, false, false, false, false, false, false, false, false, false, false, false, false]) (i := 8) (is := []) (by kernel_rfl) ?_) | (refine RA.step (L := [true, true, true, true, true, true, true, true, true, false, false, false, false, false, false, false, false, false, false, false, false, false, false, false, false]) (i := 9) (is := []) (by kernel_rfl) ?_) | (refine RA.step (L := [true, true, true, true, true, true, true, true, true, true, false, false, false, false, false, false, false, false, false, false, false, false, false, false, false]) (i := 10) (is := []) (by kernel_rfl) ?_) | (refine RA.step (L := [true, true, true, true, true, true, true, true, true, true, true, false, false, false, false, false, false, false, false, false, false, false, false, false, false]) (i := 11) (is := []) (by kernel_rfl) ?_) | (refine RA.step (L := [true, true, true, true, true, true, true, true, true, true, true, true, false, false, false, false, false, false, false, false, false, false, false, false, false]) (i := 12) (is := []) (by kernel_rfl) ?_) | (refine RA.step (L := [true, true, true, true, true, true, true, true, true, true, true, true, true, false, false, false, false, false, false, false, false, false, false, false, false]) (i := 13) (is := []) (by kernel_rfl) ?_) | (refine RA.step (L := [true, true, true, true, true, true, true, true, true, true, true, true, true, true, false, false, false, false, false, false, false, false, false, false, false]) (i := 14) (is := []) (by kernel_rfl) ?_) | (refine RA.step (L := [true, true, true, true, true, true, true, true, true, true, true, true, true, true, true, false, false, false, false, false, false, false, false, false, false]) (i := 15) (is := []) (by kernel_rfl) ?_) | (refine RA.step (L := [true, true, true, true, true, true, true, true, true, true, true, true, true, true, true, true, false, false, false, false, false, false, false, false, false]) (i := 16) (is := []) (by kernel_rfl) ?_) | (refine RA.step (L := [true, true, true, true, true, true, true, true, true, true, true, true, true, true, true, true, true, false, false, false, false, false, false, false, false]) (i := 17) (is := []) (by kernel_rfl) ?_) | (refine RA.step (L := [true, true, true, true, true, true, true, true, true, true, true, true, true, true, true, true, true, true, false, false, false, false, false, false, false]) (i := 18) (is := []) (by kernel_rfl) ?_) | (refine RA.step (L := [true, true, true, true, true, true, true, true, true, true, true, true, true, true, true, true, true, true, true, false, false, false, false, false, false]) (i := 19) (is := []) (by kernel_rfl) ?_) | (refine RA.step (L := [true, true, true, true, true, true, true, true, true, true, true, true, true, true, true, true, true, true, true, true, false, false, false, false, false]) (i := 20) (is := [21]) (by kernel_rfl) ?_) | (refine RA.step (L := [true, true, true, true, true, true, true, true, true, true, true, true, true, true, true, true, true, true, true, true, false, true, false, false, false]) (i := 20) (is := []) (by kernel_rfl) ?_) | (refine RA.step (L := [true, true, true, true, true, true, true, true, true, true, true, true, true, true, true, true, true, true, true, true, true, true, false, false, false]) (i := 22) (is := []) (by kernel_rfl) ?_) | (refine RA.step (L := [true, true, true, true, true, true, true, true, true, true, true, true, true, true, true, true, true, true, true, true, true, true, true, false, false]) (i := 23) (is := []) (by kernel_rfl) ?_) | (refine RA.step (L := [true, true, true, true, true, true, true, true, true, true, true, true, true, true, true, true, true, true, true, true, true, true, true, true, false]) (i := 24) (is := []) (by kernel_rfl) ?_) | (refine RA.done (L := [true, true, true, true, true, true, true, true, true, true, true, true, true, true, true, true, true, true, true, true, true, true, true, true, true]) (by kernel_rfl) ?_) | (refine RA.step (L := [true, true, true, true, true, true, true, true, true, true, true, true, true, true, true, true, true, true, true, true, true, false, false, false, false]) (i := 21) (is := []) (by kernel_rfl) ?_) | (refine RA.step (L := [true, true, true, true, false, false, false, false, false, false, false, false, false, false, false, false, false, false, false, false, false, false, false, false, false]) (i := 4) (is := []) (by kernel_rfl) ?_) | (refine W.condA (ht := fun hb => ?_) (hf := fun hb => ?_) <;> (try simp at hb) <;> (try (exfalso; omega))))
  all_goals first
    | exact Fin.ret ResL.auto
    | trace_state
end
end Go.Proofs.Ytgpcmgjdkefdjaa
end
