/-
  PriceTells: the row: what came in is read, the contract of the function gives true, and what came in stands.
-/
import Derived.Test.YtgpcmgjdkefdjaaTS11
import Derived.Test.YtgpcmgjdkefdjaaTS05
section
set_option linter.unusedVariables false
set_option linter.unusedSimpArgs false
set_option maxHeartbeats 8000000
set_option linter.unusedSectionVars false
namespace Go.Proofs.Ytgpcmgjdkefdjaa
open Lf Go
attribute [local irreducible] PureOp EffOp Ev RG W Then InBlock Lf.Fin nth App InitE Pick EvL EvD EvP EvR ResL Lf.Lex SubR SubBR RA RAll EvC FinO FinM ResM ResD FinS val pw digs trimL
section
def sR : List Rat := [Rat.divInt 1 1, Rat.divInt 9 10, Rat.divInt 1 2]
def sR2 : List Rat := [Rat.divInt 1 1, Rat.divInt 1 3]
theorem sR_ok : (∀ k, k < 3 → 0 < nth sR k ∧ nth sR k ≤ if k = 0 then 1 else nth sR (k - 1)) ∧ (∀ k, k < 2 → 0 < nth sR2 k ∧ nth sR2 k ≤ if k = 0 then 1 else nth sR2 (k - 1)) := by
  constructor
  · intro k hk
    match k, hk with
    | 0, _ => decide +kernel
    | 1, _ => decide +kernel
    | 2, _ => decide +kernel
  · intro k hk
    match k, hk with
    | 0, _ => decide +kernel
    | 1, _ => decide +kernel
theorem bdc {p q : Int} (hp : -1208925819614629174706176 < p ∧ p < 1208925819614629174706176) (hq : -1208925819614629174706176 < q ∧ q < 1208925819614629174706176) (h : q ≠ 0) : bd (Rat.divInt p q) 6 := by
  have e := pw4
  exact bd_mono (bd_div (n := 4) h (by omega) (by omega)) (by omega)
theorem sR_bd : (∀ r ∈ sR, bd r 6) ∧ ∀ r ∈ sR2, bd r 6 := by
  constructor
  · intro r hr
    unfold sR at hr
    rcases List.mem_cons.1 hr with rfl | hr
    · exact bdc (by omega) (by omega) (by omega)
    rcases List.mem_cons.1 hr with rfl | hr
    · exact bdc (by omega) (by omega) (by omega)
    rcases List.mem_cons.1 hr with rfl | hr
    · exact bdc (by omega) (by omega) (by omega)
    · cases hr
  · intro r hr
    unfold sR2 at hr
    rcases List.mem_cons.1 hr with rfl | hr
    · exact bdc (by omega) (by omega) (by omega)
    rcases List.mem_cons.1 hr with rfl | hr
    · exact bdc (by omega) (by omega) (by omega)
    · cases hr
theorem bd6_ok {R : List Rat} (h : ∀ r ∈ R, bd r 6) : ∀ r ∈ R, okF r := fun r hr => bd_ok (h r hr) (by omega)
theorem sFOk : FOk (sR.map fqOf) ∧ FOk (sR2.map fqOf) := ⟨FOk_of (bd6_ok sR_bd.1) (by decide) sR_ok.1, FOk_of (bd6_ok sR_bd.2) (by decide) sR_ok.2⟩
/-- the value with factors that are given as1 numbers -/
def vsumR (R : List Rat) (d : Int) (l : List Fl) : Nat → Rat
  | 0 => 0
  | k + 1 => vsumR R d l k + ((nth l k).amt : Rat) * nth R (yrI d (nth l k)).toNat
theorem vsumR_eq {R : List Rat} (ok : ∀ r ∈ R, okF r) {d : Int} {l : List Fl} (h : ∀ k, k < l.length → (yrI d (nth l k)).toNat < R.length) : ∀ n, n ≤ l.length → vsum (R.map fqOf) d l n = vsumR R d l n
  | 0, _ => rfl
  | n + 1, hn => by
    have hk := h n (by omega)
    rw [vsum, vsumR, vsumR_eq ok h n (by omega), term, nth_fq hk, fqOf_val (ok _ (nth_mem hk))]
def s1 : List Fl := [⟨100, 10⟩, ⟨465, 20⟩, ⟨900, 30⟩]
def s2 : List Fl := [⟨99, 10⟩]
def s3 : List Fl := [⟨1195, 10⟩]
def s4 : List Fl := [⟨500, 5⟩]
theorem s1_vin : VIn s1 100 (sR.map fqOf) := ⟨by decide +kernel, sFOk.1, fewF_of sR_bd.1, by decide +kernel, by decide +kernel⟩
theorem s4_vin : VIn s4 100 (sR.map fqOf) ∧ VIn s4 100 (sR2.map fqOf) := ⟨⟨by decide +kernel, sFOk.1, fewF_of sR_bd.1, by decide +kernel, by decide +kernel⟩, ⟨by decide +kernel, sFOk.2, fewF_of sR_bd.2, by decide +kernel, by decide +kernel⟩⟩
theorem s1_val : vsum (sR.map fqOf) 100 s1 3 = Rat.divInt 43 1 := by
  rw [vsumR_eq (bd6_ok sR_bd.1) (by decide +kernel) 3 (by decide)]
  decide +kernel
theorem s4_val : vsum (sR.map fqOf) 100 s4 1 = Rat.divInt 9 2 ∧ vsum (sR2.map fqOf) 100 s4 1 = Rat.divInt 5 3 := by
  rw [vsumR_eq (bd6_ok sR_bd.1) (by decide +kernel) 1 (by decide), vsumR_eq (bd6_ok sR_bd.2) (by decide +kernel) 1 (by decide)]
  decide +kernel
theorem s_e : valE s2 100 (sR.map fqOf) = 20 ∧ valE s3 100 (sR.map fqOf) = 3 := by
  constructor
  · unfold valE
    rw [if_neg (fun q => q ⟨by decide +kernel, sFOk.1⟩), if_pos (by decide +kernel)]
  · unfold valE
    rw [if_neg (fun q => q ⟨by decide +kernel, sFOk.1⟩), if_neg (by decide +kernel), if_pos (by decide +kernel)]
theorem s_ceil : (ceilR (Rat.divInt 9 2) = 5 ∧ goodB (Rat.divInt 9 2) = true) ∧ (ceilR (Rat.divInt 5 3) = 2 ∧ goodB (Rat.divInt 5 3) = true) := by decide +kernel
def t1 : List Fl := [⟨100, 10⟩]
def t2 : List Fl := [⟨500, 10⟩]
def t3 : List Fl := [⟨100, 10⟩, ⟨500, 5⟩]
def t4 : List Fl := [⟨100, 4⟩, ⟨500, 12⟩]
theorem s_dear : Dear t1 t2 100 ∧ ¬ Dear t2 t1 100 ∧ ¬ Dear t3 t4 100 := by
  have a1 : LIn t1 100 := ⟨by decide +kernel, by decide +kernel⟩
  have a2 : LIn t2 100 := ⟨by decide +kernel, by decide +kernel⟩
  refine ⟨(dear_iff a1 a2).2 fun n hn => ?_, fun q => ?_, fun q => ?_⟩
  · have hn : (n : Int) ≤ 1 := hn
    match n, hn with
    | 0, _ => decide +kernel
    | 1, _ => decide +kernel
  · have := q.2.2 1
    revert this
    decide +kernel
  · have := q.2.2 2
    revert this
    decide +kernel
open Classical in
theorem small_ok : ACalls Try.prog 8 [] (.pv (cB true)) := by
  have ix : ∀ n : Int, (-1000 ≤ n ∧ n ≤ 1000) → i64B n := fun n h => by unfold i64B; omega
  have o1 := of_ok 1 1 (ix _ (by omega)) (ix _ (by omega)) (by omega)
  have o2 := of_ok 9 10 (ix _ (by omega)) (ix _ (by omega)) (by omega)
  have o3 := of_ok 1 2 (ix _ (by omega)) (ix _ (by omega)) (by omega)
  have o4 := of_ok 1 3 (ix _ (by omega)) (ix _ (by omega)) (by omega)
  have o5 := of_ok 43 1 (ix _ (by omega)) (ix _ (by omega)) (by omega)
  have f1 := fewF_of sR_bd.1
  have f2 := fewF_of sR_bd.2
  have v1 := (value_both s1 100 (sR.map fqOf) (by decide) (by decide) (few_FqOk f1) f1).1
  have v2 := (value_both s2 100 (sR.map fqOf) (by decide) (by decide) (few_FqOk f1) f1).1
  have v3 := (value_both s3 100 (sR.map fqOf) (by decide) (by decide) (few_FqOk f1) f1).1
  have e1 := valE_ok s1_vin (addsOk_few s1_vin (by decide))
  rw [show valV s1 100 (sR.map fqOf) = zF (Rat.divInt 43 1) from by unfold valV; rw [if_pos e1]; exact congrArg zF s1_val, e1] at v1
  rw [show valV s2 100 (sR.map fqOf) = zF0 from if_neg (by rw [s_e.1]; decide), s_e.1] at v2
  rw [show valV s3 100 (sR.map fqOf) = zF0 from if_neg (by rw [s_e.2]; decide), s_e.2] at v3
  have z1 := valE_ok s4_vin.1 (addsOk_few s4_vin.1 (by decide))
  have z2 := valE_ok s4_vin.2 (addsOk_few s4_vin.2 (by decide))
  have two : ∀ s, s ∈ [sR.map fqOf, sR2.map fqOf] → s = sR.map fqOf ∨ s = sR2.map fqOf := fun s hs => by simpa using hs
  have so1 : ∀ s ∈ [sR.map fqOf, sR2.map fqOf], fewF s := fun s hs => by
    rcases two s hs with rfl | rfl
    · exact f1
    · exact f2
  have so2 : ∀ s ∈ [sR.map fqOf, sR2.map fqOf], s.length ≤ 9223372036854775807 := fun s hs => by
    rcases two s hs with rfl | rfl <;> decide
  have so : SOk [sR.map fqOf, sR2.map fqOf] := ⟨so1, so2, fun s hs => few_FqOk (so1 s hs)⟩
  have n0 : nth [sR.map fqOf, sR2.map fqOf] 0 = sR.map fqOf := by rw [nth_eq (by simp)]; rfl
  have n1 : nth [sR.map fqOf, sR2.map fqOf] 1 = sR2.map fqOf := by rw [nth_eq (by simp)]; rfl
  obtain ⟨V, e, c1, _, _, c2, c3⟩ := cost_both s4 100 [sR.map fqOf, sR2.map fqOf] (by decide) (by decide) so
  have q1 : vS s4 100 (sR.map fqOf) = Rat.divInt 9 2 := s4_val.1
  have q2 : vS s4 100 (sR2.map fqOf) = Rat.divInt 5 3 := s4_val.2
  have e0 : e = 0 := c3 (by decide) (fun j hj => by
    match j, hj with
    | 0, _ => rw [n0]; exact z1
    | 1, _ => rw [n1]; exact z2) (fun j hj => by
    match j, hj with
    | 0, _ => rw [n0, q1]; exact s_ceil.1.2
    | 1, _ => rw [n1, q2]; exact s_ceil.2.2)
  have eV : V = [5, 2] := by
    rw [(c2 e0).2.2.1]
    simp only [List.map_cons, List.map_nil, q1, q2, s_ceil.1.1, s_ceil.2.1]
  subst e0 eV
  have i1 := ints_same [5, 2] (by decide)
  have m1 := same_any (sgn (Rat.divInt 43 1).num) (digs (mag (Rat.divInt 43 1).num)) (sgn (Rat.divInt 43 1).den) (digs (mag (Rat.divInt 43 1).den)) (by have := num_len (okF_of (x := 43) (y := 1) (i64_ok (ix _ (by omega))) (i64_ok (ix _ (by omega))) (by omega)).1; omega) (by have := num_len (okF_of (x := 43) (y := 1) (i64_ok (ix _ (by omega))) (i64_ok (ix _ (by omega))) (by omega)).2; omega)
  have d1 := dearer_ok t1 t2 100 (by decide) (by decide) true (by simp [s_dear.1])
  have d2 := dearer_ok t2 t1 100 (by decide) (by decide) false (by simp [s_dear.2.1])
  have d3 := dearer_ok t3 t4 100 (by decide) (by decide) false (by simp [s_dear.2.2])
  have k1 := pfac_ok (sR.map fqOf) (by decide) (few_FqOk f1) true (by simp [sFOk.1])
  have k2 := pfac_ok [] (by decide) (fun q hq => by cases hq) false (by simp [FOk])
  rw [show slF (sR.map fqOf) = slQ sR from by rw [slF, slF_of]] at v1 v2 v3 k1
  rw [show slS [sR.map fqOf, sR2.map fqOf] = .one (.sl [[.sl (sR.map encQ)], [.sl (sR2.map encQ)]]) from by rw [slS]; simp only [List.map_cons, List.map_nil, encS, slF_of]] at c1
  clear c2 c3 q1 q2 two so1 so2 n0 n1 so z1 z2 f1 f2 e1 ix
  unfold sR at v1 v2 v3 k1 c1
  unfold sR2 at c1
  unfold s1 at v1
  unfold s2 at v2
  unfold s3 at v3
  unfold s4 at c1
  unfold t1 t2 at d1 d2
  unfold t3 t4 at d3
  generalize Rat.divInt 1 1 = r1 at *
  generalize Rat.divInt 9 10 = r2 at *
  generalize Rat.divInt 1 2 = r3 at *
  generalize Rat.divInt 1 3 = r4 at *
  generalize Rat.divInt 43 1 = r5 at *
  refine ACalls.of_W (qs := [cB true]) [0] 116 Try.func8 (by kernel_rfl) rfl rfl rfl fun G => ?_
  refine W.initA (hw := ?_)
  repeat' (first | (refine W.weaken (Le.freeze1 (m := 51) rfl) ?_; apply W.region (id := 8)) | ((first | apply U_ | (apply Ug_; exact rfl; exact rfl) | (apply Ugq_; exact rfl; exact rfl)); (first | (apply Q_litD TYok; apply EvR.cons Ev.auto; (repeat (first | exact EvR.nil | apply EvR.cons Ev.auto)); exact rfl; exact rfl; exact rfl; exact rfl; exact rfl; exact rfl) | exact QX.B TYok | exact QX.Ext TYok | exact QX.Build TYok | exact QCd (o1) | exact QCd (o2) | exact QCd (o3) | exact QCd (o4) | exact QCd (o5) | exact QCd (v1) | exact QCd (v2) | exact QCd (v3) | exact QCd (c1) | exact QCd (i1) | exact QCd (m1) | exact QCd (d1) | exact QCd (d2) | exact QCd (d3) | exact QCd (k1) | exact QCd (k2)); exact rfl) | refine SX.Alloc TYok (h := ?_) | refine SX.Store TYok (h := ?_) | refine SX.Lit TYok (h := ?_) | refine SX.App TYok (h := ?_) | (apply S_appendd TYok; exact Ev.auto; exact Ev.auto; exact rfl; exact rfl; exact rfl; exact rfl; exact rfl; exact rfl; exact rfl; exact rfl; (intro r hr; first | (obtain ⟨_, _, rfl⟩ := List.mem_map.1 hr; rfl) | (obtain rfl := List.mem_singleton.1 hr; rfl)); (constructor <;> simp <;> omega); exact rfl) | refine SC ?_ | (apply S_isnil TYok; exact rfl; exact rfl; exact rfl; exact Ev.auto; intro bn hnil) | refine SG ?_ | (refine W.drawA (id := 10) (L := [false, false, false, false, false, false, false, false, false, false, false, false, false, false, false, false, false, false, false, false, false, false, false, false, false]) mixed rfl ?_) | exact RAll.nil | (refine RAll.cons rfl ?_ ?_) | (refine RA.step (L := [false, false, false, false, false, false, false, false, false, false, false, false, false, false, false, false, false, false, false, false, false, false, false, false, false]) (i := 0) (is := []) (by kernel_rfl) ?_) | (refine RA.step (L := [true, false, false, false, false, false, false, false, false, false, false, false, false, false, false, false, false, false, false, false, false, false, false, false, false]) (i := 1) (is := []) (by kernel_rfl) ?_) | (refine RA.step (L := [true, true, false, false, false, false, false, false, false, false, false, false, false, false, false, false, false, false, false, false, false, false, false, false, false]) (i := 2) (is := []) (by kernel_rfl) ?_) | (refine RA.step (L := [true, true, true, false, false, false, false, false, false, false, false, false, false, false, false, false, false, false, false, false, false, false, false, false, false]) (i := 3) (is := [4]) (by kernel_rfl) ?_) | (refine RA.step (L := [true, true, true, false, true, false, false, false, false, false, false, false, false, false, false, false, false, false, false, false, false, false, false, false, false]) (i := 3) (is := []) (by kernel_rfl) ?_) | (refine RA.step (L := [true, true, true, true, true, false, false, false, false, false, false, false, false, false, false, false, false, false, false, false, false, false, false, false, false]) (i := 5) (is := []) (by kernel_rfl) ?_) | (refine RA.step (L := [true, true, true, true, true, true, false, false, false, false, false, false, false, false, false, false, false, false, false, false, false, false, false, false, false]) (i := 6) (is := []) (by kernel_rfl) ?_) | (refine RA.step (L := [true, true, true, true, true, true, true, false, false, false, false, false, false, false, false, false, false, false, false, false, false, false, false, false, false]) (i := 7) (is := []) (by kernel_rfl) ?_) | (refine RA.step (L := [true, true, true, true, true, true, true, true, false, false, false, false, false, false, false, false, false, false, false, false, false, false, false, false, false]) (i := 8) (is := []) (by kernel_rfl) ?_) | (refine RA.step (L := [true, true, true, true, true, true, true, true, true, false, false, false, false, false, false, false, false, false, false, false, false, false, false, false, false]) (i := 9) (is := []) (by kernel_rfl) ?_) | (refine RA.step (L := [true, true, true, true, true, true, true, true, true, true, false, false, false, false, false, false, false, false, false, false, false, false, false, false, false]) (i := 10) (is := []) (by kernel_rfl) ?_) | (refine RA.step (L := [true, true, true, true, true, true, true, true, true, true, true, false, false, false, false, false, false, false, false, false, false, false, false, false, false]) (i := 11) (is := []) (by kernel_rfl) ?_) | (refine RA.step (L := [true, true, true, true, true, true, true, true, true, true, true, true, false, false, false, false, false, false, false, false, false, false, false, false, false]) (i := 12) (is := []) (by kernel_rfl) ?_) | (refine RA.step (L := [true, true, true, true, true, true, true, true, true, true, true, true, true, false, false, false, false, false, false, false, false, false, false, false, false]) (i := 13) (is := []) (by kernel_rfl) ?_) | (refine RA.step (L := [true, true, true, true, true, true, true, true, true, true, true, true, true, true, false, false, false, false, false, false, false, false, false, false, false]) (i := 14) (is := []) (by kernel_rfl) ?_) | (refine RA.step (L := [true, true, true, true, true, true, true, true, true, true, true, true, true, true, true, false, false, false, false, false, false, false, false, false, false]) (i := 15) (is := []) (by kernel_rfl) ?_) | (refine RA.step (L := [true, true, true, true, true, true, true, true, true, true, true, true, true, true, true, true, false, false, false, false, false, false, false, false, false]) (i := 16) (is := []) (by kernel_rfl) ?_) | (refine RA.step (L := [true, true, true, true, true, true, true, true, true, true, true, true, true, true, true, true, true, false, false, false, false, false, false, false, false]) (i := 17) (is := []) (by kernel_rfl) ?_) | (refine RA.step (L := [true, true, true, true, true, true, true, true, true, true, true, true, true, true, true, true, true, true, false, false, false, false, false, false, false]) (i := 18) (is := []) (by kernel_rfl) ?_) | (refine RA.step (L := [true, true, true, true, true, true, true, true, true, true, true, true, true, true, true, true, true, true, true, false, false, false, false, false, false]) (i := 19) (is := []) (by kernel_rfl) ?_) | (refine RA.step (L := [true, true, true, true, true, true, true, true, true, true, true, true, true, true, true, true, true, true, true, true, false, false, false, false, false]) (i := 20) (is := [21]) (by kernel_rfl) ?_) | (refine RA.step (L := [true, true, true, true, true, true, true, true, true, true, true, true, true, true, true, true, true, true, true, true, false, true, false, false, false]) (i := 20) (is := []) (by kernel_rfl) ?_) | (refine RA.step (L := [true, true, true, true, true, true, true, true, true, true, true, true, true, true, true, true, true, true, true, true, true, true, false, false, false]) (i := 22) (is := []) (by kernel_rfl) ?_) | (refine RA.step (L := [true, true, true, true, true, true, true, true, true, true, true, true, true, true, true, true, true, true, true, true, true, true, true, false, false]) (i := 23) (is := []) (by kernel_rfl) ?_) | (refine RA.step (L := [true, true, true, true, true, true, true, true, true, true, true, true, true, true, true, true, true, true, true, true, true, true, true, true, false]) (i := 24) (is := []) (by kernel_rfl) ?_) | (refine RA.done (L := [true, true, true, true, true, true, true, true, true, true, true, true, true, true, true, true, true, true, true, true, true, true, true, true, true]) (by kernel_rfl) ?_) | (refine RA.step (L := [true, true, true, true, true, true, true, true, true, true, true, true, true, true, true, true, true, true, true, true, true, false, false, false, false]) (i := 21) (is := []) (by kernel_rfl) ?_) | (refine RA.step (L := [true, true, true, true, false, false, false, false, false, false, false, false, false, false, false, false, false, false, false, false, false, false, false, false, false]) (i := 4) (is := []) (by kernel_rfl) ?_) | (refine W.condA (ht := fun hb => ?_) (hf := fun hb => ?_) <;> (try simp at hb) <;> (try (exfalso; omega))))
  all_goals first
    | exact Fin.ret ResL.auto
    | trace_state
end
end Go.Proofs.Ytgpcmgjdkefdjaa
end
section
set_option linter.unusedVariables false
set_option linter.unusedSimpArgs false
set_option maxHeartbeats 8000000
set_option linter.unusedSectionVars false
namespace Go.Proofs.Ytgpcmgjdkefdjaa
open Lf Go
attribute [local irreducible] PureOp EffOp Ev RG W Then InBlock Lf.Fin nth App InitE Pick EvL EvD EvP EvR ResL Lf.Lex SubR SubBR RA RAll EvC FinO FinM ResM ResD FinS val pw digs trimL
section
open Classical in
theorem tells_ok (a b : List Fl) (d : Int) (L : List Fq) (S : List (List Fq)) (ha : a.length ≤ 9223372036854775807) (hbl : b.length ≤ 9223372036854775807) (hL : L.length ≤ 9223372036854775807) (hS : S.length ≤ 9223372036854775807) (hSl : ∀ s ∈ S, s.length ≤ 9223372036854775807) :
    ACalls Try.prog 3 [slW a, slW b, cI d, slF L, slS S] (.pv (cB true)) := by
  have h0 := small_ok
  have f1 := few_ok a L ha hL (decide ((a.length ≤ 20 ∧ L.length ≤ 12) ∧ fewF L)) (by simp)
  have f2 := few_ok b [] hbl (by decide) (decide (b.length ≤ 20)) (by simp [fewF])
  by_cases h : (((a.length ≤ 20 ∧ L.length ≤ 12) ∧ fewF L) ∧ b.length ≤ 20) ∧ S.length ≤ 4
  case neg =>
    have hbad : (decide ((a.length ≤ 20 ∧ L.length ≤ 12) ∧ fewF L) = true ∧ decide (b.length ≤ 20) = true) ∧ (S.length : Int) ≤ 4 → False := fun q => h ⟨⟨of_decide_eq_true q.1.1, of_decide_eq_true q.1.2⟩, by omega⟩
    generalize decide ((a.length ≤ 20 ∧ L.length ≤ 12) ∧ fewF L) = b1 at *
    generalize decide (b.length ≤ 20) = b2 at *
    refine ACalls.of_W (qs := [cB true]) [10] 117 Try.func3 (by kernel_rfl) rfl rfl rfl fun G => ?_
    refine W.initA (hw := ?_)
    repeat' (first | ((first | apply U_ | (apply Ug_; exact rfl; exact rfl) | (apply Ugq_; exact rfl; exact rfl)); (first | exact QX.B TYok | exact QX.Len TYok | exact QX.Idx TYok | exact QX.Ext TYok | exact QCd (h0) | exact QCd (f1) | exact QCd (f2)); exact rfl) | refine SX.Alloc TYok (h := ?_) | refine SX.Store TYok (h := ?_) | refine SC ?_ | (apply S_isnil TYok; exact rfl; exact rfl; exact rfl; exact Ev.auto; intro bn hnil) | refine SG ?_ | (refine W.condA (ht := fun hb => ?_) (hf := fun hb => ?_) <;> (try simp at hb) <;> (try (exfalso; first | exact hbad hb | omega))))
    all_goals first
      | exact Fin.ret ResL.auto
      | trace_state
  obtain ⟨⟨⟨⟨h1, h2⟩, h3⟩, h4⟩, h5⟩ := h
  rw [decide_eq_true (show (a.length ≤ 20 ∧ L.length ≤ 12) ∧ fewF L from ⟨⟨h1, h2⟩, h3⟩)] at f1
  rw [decide_eq_true h4] at f2
  have fS := fun k (hk : k < S.length) => few_ok [] (nth S k) (by decide) (hSl _ (nth_mem hk)) (decide ((nth S k).length ≤ 12 ∧ fewF (nth S k))) (by simp)
  refine ACalls.of_W (qs := [cB true]) [10] 117 Try.func3 (by kernel_rfl) rfl rfl rfl fun G => ?_
  refine W.initA (hw := ?_)
  repeat' (first | ((first | apply U_ | (apply Ug_; exact rfl; exact rfl) | (apply Ugq_; exact rfl; exact rfl)); (first | exact QX.B TYok | exact QX.Len TYok | exact QX.Idx TYok | exact QX.Ext TYok | exact QCd (h0) | exact QCd (f1) | exact QCd (f2)); exact rfl) | refine SX.Alloc TYok (h := ?_) | refine SX.Store TYok (h := ?_) | refine SC ?_ | (apply S_isnil TYok; exact rfl; exact rfl; exact rfl; exact Ev.auto; intro bn hnil) | refine SG ?_ | (refine W.condA (ht := fun hb => ?_) (hf := fun hb => ?_) <;> (try simp at hb) <;> (try (exfalso; omega))))
  apply W.loopP (σ := Nat) 117 [0, 1, 2, 3, 4, 11] (fun k => k ≤ S.length ∧ ∀ j, j < k → (nth S j).length ≤ 12 ∧ fewF (nth S j)) (fun k => [(12, vI k)]) (fun _ => []) (fun k => S.length - k) (0)
  case hp => repeat (first | exact Pick.nil | apply Pick.cons rfl)
  case h0 =>
    refine ⟨⟨by omega, fun j hj => by omega⟩, ?_⟩
    exact Le.auto
  case round =>
    rintro k ⟨g1, g2⟩
    apply W.norm (by repeat (first | exact App.nil | apply App.cons))
    by_cases hk : k < S.length
    · have fk := fS k hk
      by_cases hw : (nth S k).length ≤ 12 ∧ fewF (nth S k)
      · rw [decide_eq_true hw] at fk
        repeat' (first | ((first | apply U_ | (apply Ug_; exact rfl; exact rfl) | (apply Ugq_; exact rfl; exact rfl)); (first | exact QX.B TYok | exact QX.Len TYok | exact QX.Idx TYok | exact QX.Ext TYok | exact QCd (fk)); exact rfl) | refine SX.Alloc TYok (h := ?_) | refine SX.Store TYok (h := ?_) | refine SC ?_ | (apply S_isnil TYok; exact rfl; exact rfl; exact rfl; exact Ev.auto; intro bn hnil) | refine SG ?_ | (refine W.condA (ht := fun hb => ?_) (hf := fun hb => ?_) <;> (try simp at hb) <;> (try (exfalso; omega))))
        all_goals first
          | (refine ⟨k + 1, ⟨by omega, fun j hj => ?_⟩, ?_, by omega⟩
             · rcases Nat.lt_or_ge j k with q | q
               · exact g2 j q
               · obtain rfl : j = k := by omega
                 exact hw
             · exact Le.auto)
          | (exfalso; omega)
          | trace_state
      · rw [decide_eq_false hw] at fk
        repeat' (first | ((first | apply U_ | (apply Ug_; exact rfl; exact rfl) | (apply Ugq_; exact rfl; exact rfl)); (first | exact QX.B TYok | exact QX.Len TYok | exact QX.Idx TYok | exact QX.Ext TYok | exact QCd (fk)); exact rfl) | refine SX.Alloc TYok (h := ?_) | refine SX.Store TYok (h := ?_) | refine SC ?_ | (apply S_isnil TYok; exact rfl; exact rfl; exact rfl; exact Ev.auto; intro bn hnil) | refine SG ?_ | (refine W.condA (ht := fun hb => ?_) (hf := fun hb => ?_) <;> (try simp at hb) <;> (try (exfalso; omega))))
        all_goals first
          | exact Fin.ret ResL.auto
          | (exfalso; omega)
          | trace_state
    obtain rfl : k = S.length := by omega
    have so1 : ∀ s ∈ S, fewF s := fun s hs => by
      obtain ⟨i, hi, rfl⟩ := List.getElem_of_mem hs
      rw [← nth_eq hi]
      exact (g2 i hi).2
    have so : SOk S := ⟨so1, hSl, fun s hs => few_FqOk (so1 s hs)⟩
    obtain ⟨v1, v2⟩ := value_both a d L ha hL (few_FqOk h3) h3
    obtain ⟨s0, a0, s1, a1, eV, l0, l1⟩ := valV_form a d L h3
    rw [eV] at v1 v2
    have sm := same_any s0 a0 s1 a1 l0 l1
    obtain ⟨V, e, c1, c2, e1, e2, _⟩ := cost_both a d S ha hS so
    have lV : V.length ≤ 20 := by
      by_cases q : e = 0
      · rw [(e2 q).2.2.1]; simp; omega
      · rw [e1 q]; simp
    have iV := ints_same V lV
    have p1 := pfac_ok L hL (few_FqOk h3) (decide (FOk L)) (by simp)
    have p2 := rfac_ok L hL (few_FqOk h3) (decide (FOk L)) (by simp)
    have d1 := dearer_ok a b d ha hbl (decide (Dear a b d)) (by simp)
    have d2 := rdearer_ok a b d ha hbl (decide (Dear a b d)) (by simp)
    clear e1 e2 eV
    generalize valE a d L = E at *
    generalize decide (FOk L) = B1 at *
    generalize decide (Dear a b d) = B2 at *
    repeat' (first | ((first | apply U_ | (apply Ug_; exact rfl; exact rfl) | (apply Ugq_; exact rfl; exact rfl)); (first | exact QX.B TYok | exact QX.Len TYok | exact QX.Idx TYok | exact QX.Ext TYok | exact QCd (v1) | exact QCd (v2) | exact QCd (c1) | exact QCd (c2) | exact QCd (sm) | exact QCd (iV) | exact QCd (p1) | exact QCd (p2) | exact QCd (d1) | exact QCd (d2)); exact rfl) | refine SX.Alloc TYok (h := ?_) | refine SX.Store TYok (h := ?_) | refine SC ?_ | (apply S_isnil TYok; exact rfl; exact rfl; exact rfl; exact Ev.auto; intro bn hnil) | refine SG ?_ | (refine W.condA (ht := fun hb => ?_) (hf := fun hb => ?_) <;> (try simp at hb) <;> (try (exfalso; omega))))
    all_goals first
      | exact Fin.ret ResL.auto
      | (exfalso; omega)
      | trace_state
end
end Go.Proofs.Ytgpcmgjdkefdjaa
end
section
namespace Go.Proofs.Ytgpcmgjdkefdjaa
open Lf Go
theorem int_of1 {n : Nat} {cs : List Cell} (h : TyL TY (n + 1) 3 cs) : ∃ i : Int, cs = Lf.encI i ∧ True := by
  obtain ⟨i, rfl, _⟩ : ∃ i, cs = [.int .i64 i] ∧ (Lit.int .i64 i).wf = true := h
  exact ⟨i, rfl, trivial⟩
structure BV where
  s : Int
  l : List Int
abbrev encBV (b : BV) : List Cell := [.int .i64 b.s, .sl (b.l.map Lf.encI)]
theorem big_of {n : Nat} {cs : List Cell} (h : TyL TY (n + 3) 29 cs) : ∃ b : BV, cs = encBV b ∧ b.l.length ≤ 9223372036854775807 := by
  obtain ⟨a1, b1, rfl, t1, a2, b2, rfl, t2, rfl⟩ : ∃ a1 b1, cs = a1 ++ b1 ∧ TyL TY (n + 2) 3 a1 ∧ ∃ a2 b2, b1 = a2 ++ b2 ∧ TyL TY (n + 2) 27 a2 ∧ b2 = [] := h
  obtain ⟨s, rfl, _⟩ : ∃ i, a1 = [.int .i64 i] ∧ (Lit.int .i64 i).wf = true := t1
  obtain ⟨rows, rfl, hl, h3⟩ : ∃ rows, a2 = [Cell.sl rows] ∧ rows.length ≤ maxLen ∧ ∀ r ∈ rows, TyL TY (n + 1) 3 r := t2
  obtain ⟨l, rfl, _⟩ := rows_map (f := Lf.encI) (p := fun _ => True) fun r hr => int_of1 (h3 r hr)
  exact ⟨⟨s, l⟩, rfl, by simp only [List.length_map] at hl; unfold maxLen at hl; exact hl⟩
theorem fq_of {n : Nat} {cs : List Cell} (h : TyL TY (n + 4) 31 cs) : ∃ f : Fq, cs = encF f ∧ FqOk f := by
  obtain ⟨a1, b1, rfl, t1, a2, b2, rfl, t2, rfl⟩ : ∃ a1 b1, cs = a1 ++ b1 ∧ TyL TY (n + 3) 29 a1 ∧ ∃ a2 b2, b1 = a2 ++ b2 ∧ TyL TY (n + 3) 29 a2 ∧ b2 = [] := h
  obtain ⟨x, rfl, hx⟩ := big_of t1
  obtain ⟨y, rfl, hy⟩ := big_of t2
  exact ⟨⟨x.s, x.l, y.s, y.l⟩, rfl, hx, hy⟩
theorem fqs_of {n : Nat} {cs : List Cell} (h : TyL TY (n + 5) 23 cs) : ∃ l : List Fq, cs = encS l ∧ l.length ≤ 9223372036854775807 := by
  obtain ⟨rows, rfl, hl, h3⟩ : ∃ rows, cs = [Cell.sl rows] ∧ rows.length ≤ maxLen ∧ ∀ r ∈ rows, TyL TY (n + 4) 31 r := h
  obtain ⟨l, rfl, hq⟩ := rows_map (f := encF) (p := fun f => FqOk f) fun r hr => fq_of (n := n) (h3 r hr)
  exact ⟨l, rfl, by simp only [List.length_map] at hl; unfold maxLen at hl; exact hl⟩
theorem fqs_in {c : Cell} (h : TyL TY 5 23 [c]) : ∃ l : List Fq, c = .sl (l.map encF) ∧ l.length ≤ 9223372036854775807 := by
  obtain ⟨l, h1, h2⟩ := fqs_of (n := 0) h
  exact ⟨l, (List.cons.inj h1).1, h2⟩
theorem fqss_in {c : Cell} (h : TyL TY 6 24 [c]) : ∃ S : List (List Fq), c = .sl (S.map encS) ∧ S.length ≤ 9223372036854775807 ∧ ∀ s ∈ S, s.length ≤ 9223372036854775807 := by
  obtain ⟨rows, h1, hl, h3⟩ : ∃ rows, [c] = [Cell.sl rows] ∧ rows.length ≤ maxLen ∧ ∀ r ∈ rows, TyL TY 5 23 r := h
  obtain rfl := (List.cons.inj h1).1
  obtain ⟨S, rfl, hq⟩ := rows_map (f := encS) (p := fun l => l.length ≤ 9223372036854775807) fun r hr => fqs_of (n := 0) (h3 r hr)
  exact ⟨S, rfl, by simp only [List.length_map] at hl; unfold maxLen at hl; exact hl, hq⟩
theorem flow_of {n : Nat} {cs : List Cell} (h : TyL TY (n + 2) 44 cs) : ∃ f : Fl, cs = encW f ∧ True := by
  obtain ⟨a1, b1, rfl, t1, a2, b2, rfl, t2, rfl⟩ : ∃ a1 b1, cs = a1 ++ b1 ∧ TyL TY (n + 1) 3 a1 ∧ ∃ a2 b2, b1 = a2 ++ b2 ∧ TyL TY (n + 1) 3 a2 ∧ b2 = [] := h
  obtain ⟨i1, rfl, _⟩ : ∃ i, a1 = [.int .i64 i] ∧ (Lit.int .i64 i).wf = true := t1
  obtain ⟨i2, rfl, _⟩ : ∃ i, a2 = [.int .i64 i] ∧ (Lit.int .i64 i).wf = true := t2
  exact ⟨⟨i1, i2⟩, rfl, trivial⟩
theorem flows_in {c : Cell} (h : TyL TY 4 22 [c]) : ∃ l : List Fl, c = .sl (l.map encW) ∧ l.length ≤ 9223372036854775807 := by
  obtain ⟨rows, h1, hl, h3⟩ : ∃ rows, [c] = [Cell.sl rows] ∧ rows.length ≤ maxLen ∧ ∀ r ∈ rows, TyL TY 3 44 r := h
  obtain rfl := (List.cons.inj h1).1
  obtain ⟨l, rfl, _⟩ := rows_map (f := encW) (p := fun _ => True) fun r hr => flow_of (n := 1) (h3 r hr)
  exact ⟨l, rfl, by simp only [List.length_map] at hl; unfold maxLen at hl; exact hl⟩
end Go.Proofs.Ytgpcmgjdkefdjaa
end
section
namespace Go.Proofs.Ytgpcmgjdkefdjaa
open Lf Go Go.ChangeShapes Go.WideShapes Go.ChangeAt Go.RowKit
namespace TellsRow
theorem own : ownKnob Try.prog.godebug = none := by kernel_rfl
theorem laidOut : laidOutB Try.prog = true := by kernel_rfl
set_option maxRecDepth 100000 in
theorem lifted (os : Os) (started : os.Started) (H : Type) (enc : TypeId × Value → H) :
    ReturnsInHanded {} Try.checked os 3 .any (Rows.priceTellsSpec.pre6 enc Try.prog Try.f3 Rows.priceTellsRow.domain false) (Rows.priceTellsSpec.post enc Try.prog Try.f3 false true false false) := by
  refine returnsInHanded_of_change (C := Try.checked) own started (by kernel_rfl) Try.func3
    (ChangeSpec.witness6 (enc := enc) (C := Try.checked) false ⟨#[], #[.slice none 0 0, .slice none 0 0, .int .i64 0, .slice none 0 0, .slice none 0 0], []⟩ 8 (by kernel_rfl) (by kernel_rfl) (by kernel_rfl) (by kernel_rfl)) ?_
  intro W base args ds gs before hval0 hW hcnd _
  have hval : ∀ (j : Nat) t v, Try.f3.params[j]? = some t → args[j]? = some v → Value.okWide Try.prog W .any base t v := hval0
  have hW' := hW
  obtain ⟨p, q, hA0, hV, rfl, hfz, hnd⟩ := hW
  have hA : DataW.TrodAll enc Try.prog W 0 (fun _ => true) true Try.f3.params.toList args.toList ds p := hA0
  rw [Try.params3] at hA hval
  obtain ⟨v0, vs0, d0, ds0, p0, q0, hargs, rfl, rfl, h0, r0⟩ := trodAll_cons hA
  obtain ⟨v1, vs1, d1, ds1, p1, q1, rfl, rfl, rfl, h1, r1⟩ := trodAll_cons r0
  obtain ⟨v2, vs2, d2, ds2, p2, q2, rfl, rfl, rfl, h2, r2⟩ := trodAll_cons r1
  obtain ⟨v3, vs3, d3, ds3, p3, q3, rfl, rfl, rfl, h3, r3⟩ := trodAll_cons r2
  obtain ⟨v4, vs4, d4, ds4, p4, q4, rfl, rfl, rfl, h4, r4⟩ := trodAll_cons r3
  obtain ⟨rfl, rfl, rfl⟩ := trodAll_nil r4
  obtain rfl : args = #[v0, v1, v2, v3, v4] := by cases args; simp_all
  obtain ⟨rfl, rfl⟩ := trodVars_none hV
  have k0 := h0
  have lt0 : ∀ x ∈ p0, x.block < W.heap.size := by obtain ⟨m, hm⟩ := k0; exact DataW.trod_lt m _ _ _ hm
  obtain ⟨c0, rel0, ty0⟩ := read_slice TYok 4 Try.underlying22 (by kernel_rfl) (hval 0 22 v0 rfl rfl) h0
  obtain ⟨a0, rfl, w0⟩ := flows_in ty0
  have k1 := h1
  have lt1 : ∀ x ∈ p1, x.block < W.heap.size := by obtain ⟨m, hm⟩ := k1; exact DataW.trod_lt m _ _ _ hm
  obtain ⟨c1, rel1, ty1⟩ := read_slice TYok 4 Try.underlying22 (by kernel_rfl) (hval 1 22 v1 rfl rfl) h1
  obtain ⟨a1, rfl, w1⟩ := flows_in ty1
  obtain ⟨a2, rfl, rfl, rfl, w2⟩ := open_int Try.underlying3 (hval 2 3 v2 rfl rfl) h2
  have k3 := h3
  have lt3 : ∀ x ∈ p3, x.block < W.heap.size := by obtain ⟨m, hm⟩ := k3; exact DataW.trod_lt m _ _ _ hm
  obtain ⟨c3, rel3, ty3⟩ := read_slice TYok 5 Try.underlying23 (by kernel_rfl) (hval 3 23 v3 rfl rfl) h3
  obtain ⟨a3, rfl, w3⟩ := fqs_in ty3
  have k4 := h4
  have lt4 : ∀ x ∈ p4, x.block < W.heap.size := by obtain ⟨m, hm⟩ := k4; exact DataW.trod_lt m _ _ _ hm
  obtain ⟨c4, rel4, ty4⟩ := read_slice TYok 6 Try.underlying24 (by kernel_rfl) (hval 4 24 v4 rfl rfl) h4
  obtain ⟨a4, rfl, w4⟩ := fqss_in ty4
  clear hA0 hval0
  have hc := (tells_ok a0 a1 a2 a3 a4 w0 w1 w3 w4.1 w4.2).calls (allΦ W) W #[v0, v1, .int .i64 a2, v3, v4] (fits_all W)
    (ArgsRel.of (ArgsL.cons rel0 (ArgsL.cons rel1 (ArgsL.cons (Rel.int _ _) (ArgsL.cons rel3 (ArgsL.cons rel4 ArgsL.nil))))))
  refine hc.mono fun e W' ⟨v, Φ', he, hv, _, _, _, bel⟩ => ?_
  subst he
  obtain rfl : v = .bool true := AVRel.bool hv
  exact ⟨_, rfl, _, _, _, [], _, [], hW', trodAll_mk1 (shut_bool Try.underlying4 _), (trodAll_cons_mk (Below.trod laidOut (by kernel_rfl) (of_decide_eq_true (by kernel_rfl)) k0 bel lt0) (trodAll_cons_mk (Below.trod laidOut (by kernel_rfl) (of_decide_eq_true (by kernel_rfl)) k1 bel lt1) (trodAll_cons_mk (shut_int Try.underlying3 w2) (trodAll_cons_mk (Below.trod laidOut (by kernel_rfl) (of_decide_eq_true (by kernel_rfl)) k3 bel lt3) (trodAll_cons_mk (Below.trod laidOut (by kernel_rfl) (of_decide_eq_true (by kernel_rfl)) k4 bel lt4) trodAll_mk0))))), rfl, bel.frame _, fun h => by cases h⟩
theorem over : Rows.priceTellsRow.holds Try.pinned (OpenSpec.ofChange Rows.priceTellsSpec) :=
  OpenClaim.holds_of_wide 3 Try.f3 rfl rfl rfl rfl rfl rfl rfl ⟨rfl, rfl, rfl, rfl, rfl⟩ rfl rfl rfl rfl rfl (by kernel_rfl) Try.func3 (by kernel_rfl)
    (of_decide_eq_true (by kernel_rfl)) (by unfold Func.isWrapper; first | (rw [if_pos (by decide +kernel)]; kernel_rfl) | (rw [if_neg (by decide +kernel)]; exact ⟨rfl, rfl⟩))
    (fun os started H enc _ => lifted os started H enc)
end TellsRow
theorem priceTells_proved : Rows.PriceTellsSaid := TellsRow.over
end Go.Proofs.Ytgpcmgjdkefdjaa
end
