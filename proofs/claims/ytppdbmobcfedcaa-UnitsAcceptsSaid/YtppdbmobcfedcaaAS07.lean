/-
  Part 7 of what the proof rests on.
-/
import Derived.Test.YtppdbmobcfedcaaAS06
import Derived.Test.YtppdbmobcfedcaaAS03
import Derived.Tactics2
section
set_option linter.unusedVariables false
set_option linter.unusedSimpArgs false
set_option maxHeartbeats 8000000
set_option linter.unusedSectionVars false
namespace Go.Proofs.Ytppdbmobcfedcaa
open Lf Go
attribute [local irreducible] PureOp EffOp Ev RG W Then InBlock Lf.Fin nth App InitE Pick SubE EvL EvD EvP EvR ResL Lf.Lex SubR SubBR RA RAll EvC FinO FinM ResM
attribute [local irreducible] WP PanOp
section
variable {L : List Let} {us : List Int}
abbrev eO (op k u : Int) (s : Str) (l : List Exp) : PV := .agg [.int .i64 op, .int .i64 k, .int .i64 u, .str s, .sl (l.map encX)]
theorem take_nthI {vs : List Int} {k : Nat} (h : k < vs.length) : (vs.take (k + 1)).map encJ = (vs.take k).map encJ ++ [[.int .i64 (nth vs k)]] := by
  rw [take_nth h, List.map_append]; rfl
theorem pI_snoc (p : List Int) (k : Int) : pI (p ++ [k]) = .one (.sl (p.map Lf.encI ++ [[.int .i64 k]])) := by
  show PV.one (Cell.sl ((p ++ [k]).map encJ)) = _
  rw [List.map_append]; rfl
theorem of_args {op k u : Int} {s : Str} {l : List Exp} {path vs : List Int} (r : Int) (hop : op ≠ 0 ∧ op ≠ 1 ∧ op ≠ 2 ∧ op ≠ 3) (hp : path.length ≤ 20) (hl : l.length ≤ 3) (hv : vs.length = l.length)
    (hc : ∀ j : Nat, j < l.length → ACalls Try.prog 46 [scV L us, aE (nth l j), pI (path ++ [(j : Int)])] (.pv (cI (nth vs j)))) (hj : ACalls Try.prog 64 [cI op, slJ vs] (.pv (cI r))) (hr : r ≠ -1) :
    ACalls Try.prog 46 [scV L us, eO op k u s l, pI path] (.pv (cI r)) := by
  have hk := clone_ok path (by omega)
  refine ACalls.of_W (qs := [cI r]) [6] 66 Try.func46 (by kernel_rfl) rfl rfl rfl fun G => ?_
  refine W.initA (hw := ?_)
  repeat' (first | (refine W.weaken (Le.freeze1 (m := 3) rfl) ?_) | (refine W.weaken (Le.freeze1 (m := 4) rfl) ?_) | (refine W.purgeR [(1, [2, 3, 4]), (13, [2, 3, 4]), (14, [2, 3, 4, 8])] rfl (by repeat (first | exact PN.nil | apply PN.po rfl | (apply PN.pa; exact rfl; (repeat (first | (apply NR.cons; exact rfl) | exact NR.nil rfl))) | apply PN.a rfl | apply PN.s rfl | apply PN.u rfl | apply PN.m rfl | apply PN.k rfl | apply PN.i rfl | apply PN.skip)) (by repeat (first | exact PB.nil | (apply PB.one; exact rfl; (focus (first | (dsimp only; done) | (dsimp only; exact rfl) | exact rfl)); (focus (first | (dsimp only; done) | (dsimp only; exact rfl) | exact rfl)); exact rfl; (repeat (first | (apply NR.cons; exact rfl) | exact NR.nil rfl)))  | apply PB.cons rfl)) ?_) | ((first | apply U_); (first | exact QX.B TYok | exact QX.Len TYok | exact QX.Idx TYok | exact QX.Build TYok); exact rfl) | refine SX.Box TYok (h := ?_) | refine SC ?_ | (refine W.condA (ht := fun hb => ?_) (hf := fun hb => ?_) <;> (try simp at hb) <;> (try (exfalso; omega))))
  all_goals first
    | (exfalso; omega)
    | skip
  refine W.weaken (Le.nilOwn (t := 8) (n := 53) (E := 3) (sz := 1) rfl) ?_
  apply W.loopP (σ := Nat) 66 [2, 3, 4, 36, 37] (fun k => k ≤ l.length) (fun k => [(8, vS 53), (38, vI k)]) (fun k => [(53, ⟨3, 1, (vs.take k).map encJ⟩)]) (fun k => l.length - k) (0)
  case hp => repeat (first | exact Pick.nil | apply Pick.cons rfl)
  case h0 =>
    refine ⟨by simp, ?_⟩
    exact Le.auto
  case round =>
    rintro k h1
    apply W.norm (by repeat (first | exact App.nil | apply App.cons))
    by_cases hlt : k < l.length
    · have c1 := hc k hlt
      have e := take_nthI (vs := vs) (k := k) (by omega)
      generalize nth vs k = x at *
      rw [pI_snoc] at c1
      repeat' (first | (refine W.weaken (Le.freeze1 (m := 10) rfl) ?_) | (refine W.drawH (id := 17) 12 [false, false, false, false, false, false, false, false, false, false, false, false] mixed rfl rfl ?_) | (apply RE0.take (L := [false, false, false, false, false, false, false, false, false, false, false, false]) (fuel := 11) 0 rfl rfl rfl rfl (by kernel_rfl) (by kernel_rfl) (by kernel_rfl)) | (apply RE0.take (L := [true, false, false, false, false, false, false, false, false, false, false, false]) (fuel := 10) 1 rfl rfl rfl rfl (by kernel_rfl) (by kernel_rfl) (by kernel_rfl)) | (apply RE0.take (L := [true, true, false, false, false, false, false, false, false, false, false, false]) (fuel := 9) 2 rfl rfl rfl rfl (by kernel_rfl) (by kernel_rfl) (by kernel_rfl)) | (apply RE0.take (L := [true, true, true, false, false, false, false, false, false, false, false, false]) (fuel := 8) 3 rfl rfl rfl rfl (by kernel_rfl) (by kernel_rfl) (by kernel_rfl)) | (apply RE0.take (L := [true, true, true, true, false, false, false, false, false, false, false, false]) (fuel := 7) 5 rfl rfl rfl rfl (by kernel_rfl) (by kernel_rfl) (by kernel_rfl)) | (refine RE0.memo (L := [true, true, true, true, false, true, false, false, false, false, false, false]) 1000000 [([true, true, true, true, false, true, false, false, false, false, false, false], [(4, 1), (6, 2)]), ([true, true, true, true, true, true, false, false, false, false, false, false], [(6, 3)]), ([true, true, true, true, false, true, true, false, false, false, false, false], [(4, 3)]), ([true, true, true, true, true, true, true, false, false, false, false, false], [(7, 4)]), ([true, true, true, true, true, true, true, true, false, false, false, false], [(8, 5)]), ([true, true, true, true, true, true, true, true, true, false, false, false], [(9, 6)]), ([true, true, true, true, true, true, true, true, true, true, false, false], [(10, 7)]), ([true, true, true, true, true, true, true, true, true, true, true, false], [(11, 8)]), ([true, true, true, true, true, true, true, true, true, true, true, true], [])] [?_, ?_, ?_, ?_, ?_, ?_, ?_, ?_, ?_] (by kernel_rfl) rfl rfl rfl rfl rfl rfl ?_ ?_ rfl ?_; rotate_left 9) | (apply Stab.move; exact Ev.auto) | (apply Stab.loadpa TYok; exact Ev.auto; exact rfl; exact rfl; exact rfl) | exact MNP.nil | (refine MNP.cons ?_ ?_) | exact MGP.nil | (refine MGP.cons rfl rfl rfl ?_ ?_) | exact Le.refl | (refine Le.st rfl (by repeat (first | exact SubEK.nil | refine SubEK.skip rfl ?_ | refine SubEK.one rfl (by first | exact trivial | exact rfl) ?_)) (by repeat (first | exact SubBK.nil | refine SubBK.skip rfl ?_ | refine SubBK.one rfl ?_))) | (refine W.purgeR [(15, [2, 3, 4, 8, 36, 37, 38])] rfl (by repeat (first | exact PN.nil | apply PN.po rfl | (apply PN.pa; exact rfl; (repeat (first | (apply NR.cons; exact rfl) | exact NR.nil rfl))) | apply PN.a rfl | apply PN.s rfl | apply PN.u rfl | apply PN.m rfl | apply PN.k rfl | apply PN.i rfl | apply PN.skip)) (by repeat (first | exact PB.nil | (apply PB.one; exact rfl; (focus (first | (dsimp only; done) | (dsimp only; exact rfl) | exact rfl)); (focus (first | (dsimp only; done) | (dsimp only; exact rfl) | exact rfl)); exact rfl; (repeat (first | (apply NR.cons; exact rfl) | exact NR.nil rfl)))  | apply PB.cons rfl)) ?_) | ((first | apply U_); (first | (apply Q_litD TYok; apply EvR.cons Ev.auto; (repeat (first | exact EvR.nil | apply EvR.cons Ev.auto)); exact rfl; exact rfl; exact rfl; exact rfl; exact rfl; exact rfl) | exact QX.B TYok | exact QX.Len TYok | exact QX.Idx TYok | exact QX.Build TYok | exact QCl (c1)); exact rfl) | refine SX.Alloc TYok (h := ?_) | refine SX.Store TYok (h := ?_) | (apply S_appendd TYok; exact Ev.auto; exact Ev.auto; exact rfl; exact rfl; exact rfl; exact rfl; exact rfl; exact rfl; exact rfl; exact rfl; (intro r hr; first | (obtain ⟨_, _, rfl⟩ := List.mem_map.1 hr; rfl) | (obtain rfl := List.mem_singleton.1 hr; rfl)); (constructor <;> simp <;> omega); exact rfl) | (apply S_callo (hk); exact rfl; exact rfl; exact rfl; exact EvD.auto) | refine SC ?_ | (refine W.condA (ht := fun hb => ?_) (hf := fun hb => ?_) <;> (try simp at hb) <;> (try (exfalso; omega))))
      all_goals first
        | (refine ⟨k + 1, by omega, ?_, by (try simp only); omega⟩; rw [e]; exact Le.auto)
        | (exfalso; omega)
        | trace_state
    · obtain rfl : k = l.length := by omega
      rw [← hv, List.take_length]
      repeat' (first | ((first | apply U_); (first | exact QX.B TYok | exact QX.Len TYok | exact QX.Idx TYok | exact QX.Build TYok | exact QCl (hj)); exact rfl) | refine SC ?_ | (refine W.condA (ht := fun hb => ?_) (hf := fun hb => ?_) <;> (try simp at hb) <;> (try (exfalso; omega))))
      all_goals first
        | exact Fin.ret ResL.auto
        | (exfalso; omega)
        | trace_state
theorem of_args_none {op k u : Int} {s : Str} {l : List Exp} {path vs : List Int} (hop : op ≠ 0 ∧ op ≠ 1 ∧ op ≠ 2 ∧ op ≠ 3) (hp : path.length ≤ 20) (hl : l.length ≤ 3) (hv : vs.length = l.length)
    (hc : ∀ j : Nat, j < l.length → ACalls Try.prog 46 [scV L us, aE (nth l j), pI (path ++ [(j : Int)])] (.pv (cI (nth vs j)))) (hj : ACalls Try.prog 64 [cI op, slJ vs] (.pv (cI (-1)))) :
    PanCalls Try.prog 46 [scV L us, eO op k u s l, pI path] (whyC path 13) := by
  have hk := clone_ok path (by omega)
  have hd := hk.data rfl
  refine PanCalls.of_WP 66 Try.func46 (by kernel_rfl) rfl rfl fun G => ?_
  refine WP.initA (hw := ?_)
  repeat' (first | (refine WP.weaken (Le.freeze1 (m := 3) rfl) ?_) | (refine WP.weaken (Le.freeze1 (m := 4) rfl) ?_) | ((first | apply U_); (first | exact QX.B TYok | exact QX.Len TYok | exact QX.Idx TYok | exact QX.Build TYok); exact rfl) | refine SX.Box TYok (h := ?_) | refine WP.seq ?_ | refine WP.block ?_ | (refine WP.condA (ht := fun hb => ?_) (hf := fun hb => ?_) <;> (try simp at hb) <;> (try (exfalso; omega))) | (refine WP.of_W (c := .skip) ?_) | (refine WP.of_W (c := .region _ _ _) ?_) | refine SC ?_)
  all_goals first
    | (exfalso; omega)
    | skip
  refine WP.weaken (Le.nilOwn (t := 8) (n := 53) (E := 3) (sz := 1) rfl) ?_
  apply WP.loopP (σ := Nat) 66 [2, 3, 4, 36, 37] (fun k => k ≤ l.length) (fun k => [(8, vS 53), (38, vI k)]) (fun k => [(53, ⟨3, 1, (vs.take k).map encJ⟩)]) (fun k => l.length - k) (0)
  case hp => repeat (first | exact Pick.nil | apply Pick.cons rfl)
  case h0 =>
    refine ⟨by simp, ?_⟩
    exact Le.auto
  case round =>
    rintro k h1
    apply WP.norm (by repeat (first | exact App.nil | apply App.cons))
    by_cases hlt : k < l.length
    · have c1 := hc k hlt
      have e := take_nthI (vs := vs) (k := k) (by omega)
      generalize nth vs k = x at *
      rw [pI_snoc] at c1
      repeat' (first | (refine W.weaken (Le.freeze1 (m := 10) rfl) ?_) | (refine W.drawH (id := 17) 12 [false, false, false, false, false, false, false, false, false, false, false, false] mixed rfl rfl ?_) | (apply RE0.take (L := [false, false, false, false, false, false, false, false, false, false, false, false]) (fuel := 11) 0 rfl rfl rfl rfl (by kernel_rfl) (by kernel_rfl) (by kernel_rfl)) | (apply RE0.take (L := [true, false, false, false, false, false, false, false, false, false, false, false]) (fuel := 10) 1 rfl rfl rfl rfl (by kernel_rfl) (by kernel_rfl) (by kernel_rfl)) | (apply RE0.take (L := [true, true, false, false, false, false, false, false, false, false, false, false]) (fuel := 9) 2 rfl rfl rfl rfl (by kernel_rfl) (by kernel_rfl) (by kernel_rfl)) | (apply RE0.take (L := [true, true, true, false, false, false, false, false, false, false, false, false]) (fuel := 8) 3 rfl rfl rfl rfl (by kernel_rfl) (by kernel_rfl) (by kernel_rfl)) | (apply RE0.take (L := [true, true, true, true, false, false, false, false, false, false, false, false]) (fuel := 7) 5 rfl rfl rfl rfl (by kernel_rfl) (by kernel_rfl) (by kernel_rfl)) | (refine RE0.memo (L := [true, true, true, true, false, true, false, false, false, false, false, false]) 1000000 [([true, true, true, true, false, true, false, false, false, false, false, false], [(4, 1), (6, 2)]), ([true, true, true, true, true, true, false, false, false, false, false, false], [(6, 3)]), ([true, true, true, true, false, true, true, false, false, false, false, false], [(4, 3)]), ([true, true, true, true, true, true, true, false, false, false, false, false], [(7, 4)]), ([true, true, true, true, true, true, true, true, false, false, false, false], [(8, 5)]), ([true, true, true, true, true, true, true, true, true, false, false, false], [(9, 6)]), ([true, true, true, true, true, true, true, true, true, true, false, false], [(10, 7)]), ([true, true, true, true, true, true, true, true, true, true, true, false], [(11, 8)]), ([true, true, true, true, true, true, true, true, true, true, true, true], [])] [?_, ?_, ?_, ?_, ?_, ?_, ?_, ?_, ?_] (by kernel_rfl) rfl rfl rfl rfl rfl rfl ?_ ?_ rfl ?_; rotate_left 9) | (apply Stab.move; exact Ev.auto) | (apply Stab.loadpa TYok; exact Ev.auto; exact rfl; exact rfl; exact rfl) | exact MNP.nil | (refine MNP.cons ?_ ?_) | exact MGP.nil | (refine MGP.cons rfl rfl rfl ?_ ?_) | exact Le.refl | (refine Le.st rfl (by repeat (first | exact SubEK.nil | refine SubEK.skip rfl ?_ | refine SubEK.one rfl (by first | exact trivial | exact rfl) ?_)) (by repeat (first | exact SubBK.nil | refine SubBK.skip rfl ?_ | refine SubBK.one rfl ?_))) | ((first | apply U_); (first | (apply Q_litD TYok; apply EvR.cons Ev.auto; (repeat (first | exact EvR.nil | apply EvR.cons Ev.auto)); exact rfl; exact rfl; exact rfl; exact rfl; exact rfl; exact rfl) | exact QX.B TYok | exact QX.Len TYok | exact QX.Idx TYok | exact QX.Build TYok | exact QCl (c1)); exact rfl) | refine SX.Alloc TYok (h := ?_) | refine SX.Store TYok (h := ?_) | (apply S_appendd TYok; exact Ev.auto; exact Ev.auto; exact rfl; exact rfl; exact rfl; exact rfl; exact rfl; exact rfl; exact rfl; exact rfl; (intro r hr; first | (obtain ⟨_, _, rfl⟩ := List.mem_map.1 hr; rfl) | (obtain rfl := List.mem_singleton.1 hr; rfl)); (constructor <;> simp <;> omega); exact rfl) | (apply S_callo (hk); exact rfl; exact rfl; exact rfl; exact EvD.auto) | refine WP.seq ?_ | refine WP.block ?_ | (refine WP.condA (ht := fun hb => ?_) (hf := fun hb => ?_) <;> (try simp at hb) <;> (try (exfalso; omega))) | (refine WP.of_W (c := .skip) ?_) | (refine WP.of_W (c := .region _ _ _) ?_) | refine SC ?_)
      all_goals first
        | (refine ⟨k + 1, by omega, ?_, by (try simp only); omega⟩; rw [e]; exact Le.auto)
        | (exfalso; omega)
        | trace_state
    · obtain rfl : k = l.length := by omega
      rw [← hv, List.take_length]
      repeat' (first | (refine WP.regionP (id := 21) (pre := [_, _, _, _]) (o := _) (suf := []) rfl rfl ?_) | ((first | apply U_); (first | (apply Q_makeI TYok; exact rfl; exact rfl; exact Ev.auto; exact rfl) | exact QX.B TYok | exact QX.Len TYok | exact QX.Idx TYok | exact QX.Build TYok | exact QCl (hj) | exact QCd (hd)); exact rfl) | (apply PanOp.panic; exact Ev.auto; exact trivial) | refine WP.seq ?_ | (refine WP.condA (ht := fun hb => ?_) (hf := fun hb => ?_) <;> (try simp at hb) <;> (try (exfalso; omega))) | (refine WP.of_W (c := .exit _) ?_) | (refine WP.of_W (c := .region _ _ _) ?_) | refine SC ?_)
      all_goals first
        | (exfalso; omega)
        | trace_state
theorem of_args_bad {op k u : Int} {s : Str} {l : List Exp} {path vs : List Int} {m : Nat} {p : List Int} {x : Int} (hop : op ≠ 0 ∧ op ≠ 1 ∧ op ≠ 2 ∧ op ≠ 3) (hp : path.length ≤ 20) (hl : l.length ≤ 3) (hv : vs.length = l.length) (hm : m < l.length)
    (hc : ∀ j : Nat, j < m → ACalls Try.prog 46 [scV L us, aE (nth l j), pI (path ++ [(j : Int)])] (.pv (cI (nth vs j)))) (hz : PanCalls Try.prog 46 [scV L us, aE (nth l m), pI (path ++ [(m : Int)])] (whyC p x)) :
    PanCalls Try.prog 46 [scV L us, eO op k u s l, pI path] (whyC p x) := by
  have hk := clone_ok path (by omega)
  refine PanCalls.of_WP 66 Try.func46 (by kernel_rfl) rfl rfl fun G => ?_
  refine WP.initA (hw := ?_)
  repeat' (first | (refine WP.weaken (Le.freeze1 (m := 3) rfl) ?_) | (refine WP.weaken (Le.freeze1 (m := 4) rfl) ?_) | ((first | apply U_); (first | exact QX.B TYok | exact QX.Len TYok | exact QX.Idx TYok | exact QX.Build TYok); exact rfl) | refine SX.Box TYok (h := ?_) | refine WP.seq ?_ | refine WP.block ?_ | (refine WP.condA (ht := fun hb => ?_) (hf := fun hb => ?_) <;> (try simp at hb) <;> (try (exfalso; omega))) | (refine WP.of_W (c := .skip) ?_) | (refine WP.of_W (c := .region _ _ _) ?_) | refine SC ?_)
  all_goals first
    | (exfalso; omega)
    | skip
  refine WP.weaken (Le.nilOwn (t := 8) (n := 53) (E := 3) (sz := 1) rfl) ?_
  apply WP.loopP (σ := Nat) 66 [2, 3, 4, 36, 37] (fun k => k ≤ m) (fun k => [(8, vS 53), (38, vI k)]) (fun k => [(53, ⟨3, 1, (vs.take k).map encJ⟩)]) (fun k => l.length - k) (0)
  case hp => repeat (first | exact Pick.nil | apply Pick.cons rfl)
  case h0 =>
    refine ⟨by simp, ?_⟩
    exact Le.auto
  case round =>
    rintro k h1
    apply WP.norm (by repeat (first | exact App.nil | apply App.cons))
    by_cases hlt : k < m
    · have c1 := hc k hlt
      have e := take_nthI (vs := vs) (k := k) (by omega)
      generalize nth vs k = x at *
      rw [pI_snoc] at c1
      repeat' (first | (refine W.weaken (Le.freeze1 (m := 10) rfl) ?_) | (refine W.drawH (id := 17) 12 [false, false, false, false, false, false, false, false, false, false, false, false] mixed rfl rfl ?_) | (apply RE0.take (L := [false, false, false, false, false, false, false, false, false, false, false, false]) (fuel := 11) 0 rfl rfl rfl rfl (by kernel_rfl) (by kernel_rfl) (by kernel_rfl)) | (apply RE0.take (L := [true, false, false, false, false, false, false, false, false, false, false, false]) (fuel := 10) 1 rfl rfl rfl rfl (by kernel_rfl) (by kernel_rfl) (by kernel_rfl)) | (apply RE0.take (L := [true, true, false, false, false, false, false, false, false, false, false, false]) (fuel := 9) 2 rfl rfl rfl rfl (by kernel_rfl) (by kernel_rfl) (by kernel_rfl)) | (apply RE0.take (L := [true, true, true, false, false, false, false, false, false, false, false, false]) (fuel := 8) 3 rfl rfl rfl rfl (by kernel_rfl) (by kernel_rfl) (by kernel_rfl)) | (apply RE0.take (L := [true, true, true, true, false, false, false, false, false, false, false, false]) (fuel := 7) 5 rfl rfl rfl rfl (by kernel_rfl) (by kernel_rfl) (by kernel_rfl)) | (refine RE0.memo (L := [true, true, true, true, false, true, false, false, false, false, false, false]) 1000000 [([true, true, true, true, false, true, false, false, false, false, false, false], [(4, 1), (6, 2)]), ([true, true, true, true, true, true, false, false, false, false, false, false], [(6, 3)]), ([true, true, true, true, false, true, true, false, false, false, false, false], [(4, 3)]), ([true, true, true, true, true, true, true, false, false, false, false, false], [(7, 4)]), ([true, true, true, true, true, true, true, true, false, false, false, false], [(8, 5)]), ([true, true, true, true, true, true, true, true, true, false, false, false], [(9, 6)]), ([true, true, true, true, true, true, true, true, true, true, false, false], [(10, 7)]), ([true, true, true, true, true, true, true, true, true, true, true, false], [(11, 8)]), ([true, true, true, true, true, true, true, true, true, true, true, true], [])] [?_, ?_, ?_, ?_, ?_, ?_, ?_, ?_, ?_] (by kernel_rfl) rfl rfl rfl rfl rfl rfl ?_ ?_ rfl ?_; rotate_left 9) | (apply Stab.move; exact Ev.auto) | (apply Stab.loadpa TYok; exact Ev.auto; exact rfl; exact rfl; exact rfl) | exact MNP.nil | (refine MNP.cons ?_ ?_) | exact MGP.nil | (refine MGP.cons rfl rfl rfl ?_ ?_) | exact Le.refl | (refine Le.st rfl (by repeat (first | exact SubEK.nil | refine SubEK.skip rfl ?_ | refine SubEK.one rfl (by first | exact trivial | exact rfl) ?_)) (by repeat (first | exact SubBK.nil | refine SubBK.skip rfl ?_ | refine SubBK.one rfl ?_))) | ((first | apply U_); (first | (apply Q_litD TYok; apply EvR.cons Ev.auto; (repeat (first | exact EvR.nil | apply EvR.cons Ev.auto)); exact rfl; exact rfl; exact rfl; exact rfl; exact rfl; exact rfl) | exact QX.B TYok | exact QX.Len TYok | exact QX.Idx TYok | exact QX.Build TYok | exact QCl (c1)); exact rfl) | refine SX.Alloc TYok (h := ?_) | refine SX.Store TYok (h := ?_) | (apply S_appendd TYok; exact Ev.auto; exact Ev.auto; exact rfl; exact rfl; exact rfl; exact rfl; exact rfl; exact rfl; exact rfl; exact rfl; (intro r hr; first | (obtain ⟨_, _, rfl⟩ := List.mem_map.1 hr; rfl) | (obtain rfl := List.mem_singleton.1 hr; rfl)); (constructor <;> simp <;> omega); exact rfl) | (apply S_callo (hk); exact rfl; exact rfl; exact rfl; exact EvD.auto) | refine WP.seq ?_ | refine WP.block ?_ | (refine WP.condA (ht := fun hb => ?_) (hf := fun hb => ?_) <;> (try simp at hb) <;> (try (exfalso; omega))) | (refine WP.of_W (c := .skip) ?_) | (refine WP.of_W (c := .region _ _ _) ?_) | refine SC ?_)
      all_goals first
        | (refine ⟨k + 1, by omega, ?_, by (try simp only); omega⟩; rw [e]; exact Le.auto)
        | (exfalso; omega)
        | trace_state
    · obtain rfl : k = m := by omega
      rw [pI_snoc] at hz
      repeat' (first | (refine WP.weaken (Le.freeze1 (m := 10) rfl) ?_) | (refine WP.drawH (id := 17) 12 [false, false, false, false, false, false, false, false, false, false, false, false] mixed rfl rfl ?_) | (apply RE0.take (L := [false, false, false, false, false, false, false, false, false, false, false, false]) (fuel := 11) 0 rfl rfl rfl rfl (by kernel_rfl) (by kernel_rfl) (by kernel_rfl)) | (apply RE0.take (L := [true, false, false, false, false, false, false, false, false, false, false, false]) (fuel := 10) 1 rfl rfl rfl rfl (by kernel_rfl) (by kernel_rfl) (by kernel_rfl)) | (apply RE0.take (L := [true, true, false, false, false, false, false, false, false, false, false, false]) (fuel := 9) 2 rfl rfl rfl rfl (by kernel_rfl) (by kernel_rfl) (by kernel_rfl)) | (apply RE0.take (L := [true, true, true, false, false, false, false, false, false, false, false, false]) (fuel := 8) 3 rfl rfl rfl rfl (by kernel_rfl) (by kernel_rfl) (by kernel_rfl)) | (apply RE0.take (L := [true, true, true, true, false, false, false, false, false, false, false, false]) (fuel := 7) 5 rfl rfl rfl rfl (by kernel_rfl) (by kernel_rfl) (by kernel_rfl)) | (refine RE0.memoP (L := [true, true, true, true, false, true, false, false, false, false, false, false]) 8 [([true, true, true, true, false, true, false, false, false, false, false, false], [(4, 1), (6, 2)]), ([true, true, true, true, true, true, false, false, false, false, false, false], [(6, 3)]), ([true, true, true, true, false, true, true, false, false, false, false, false], [(4, 3)]), ([true, true, true, true, true, true, true, false, false, false, false, false], [(7, 4)]), ([true, true, true, true, true, true, true, true, false, false, false, false], [(8, 0)])] [?_, ?_, ?_, ?_, ?_] (by kernel_rfl) rfl rfl rfl rfl rfl ?_ ?_; rotate_left 5) | (apply Stab.move; exact Ev.auto) | (apply Stab.loadpa TYok; exact Ev.auto; exact rfl; exact rfl; exact rfl) | exact MNP.nil | (refine MNP.cons ?_ ?_) | exact MGP.nil | (refine MGP.cons rfl rfl rfl ?_ ?_) | (refine MGP.pan rfl rfl ?_ ?_) | exact Le.refl | (refine Le.st rfl (by repeat (first | exact SubEK.nil | refine SubEK.skip rfl ?_ | refine SubEK.one rfl (by first | exact trivial | exact rfl) ?_)) (by repeat (first | exact SubBK.nil | refine SubBK.skip rfl ?_ | refine SubBK.one rfl ?_))) | ((first | apply U_); (first | (apply Q_litD TYok; apply EvR.cons Ev.auto; (repeat (first | exact EvR.nil | apply EvR.cons Ev.auto)); exact rfl; exact rfl; exact rfl; exact rfl; exact rfl; exact rfl) | exact QX.B TYok | exact QX.Len TYok | exact QX.Idx TYok | exact QX.Build TYok); exact rfl) | refine SX.Alloc TYok (h := ?_) | refine SX.Store TYok (h := ?_) | (apply S_appendd TYok; exact Ev.auto; exact Ev.auto; exact rfl; exact rfl; exact rfl; exact rfl; exact rfl; exact rfl; exact rfl; exact rfl; (intro r hr; first | (obtain ⟨_, _, rfl⟩ := List.mem_map.1 hr; rfl) | (obtain rfl := List.mem_singleton.1 hr; rfl)); (constructor <;> simp <;> omega); exact rfl) | (apply S_callo (hk); exact rfl; exact rfl; exact rfl; exact EvD.auto) | (apply PanOp.calll (hz); exact EvL.auto) | refine WP.seq ?_ | refine WP.block ?_ | (refine WP.condA (ht := fun hb => ?_) (hf := fun hb => ?_) <;> (try simp at hb) <;> (try (exfalso; omega))) | (refine WP.of_W (c := .skip) ?_) | (refine WP.of_W (c := .region _ _ _) ?_) | refine SC ?_)
      all_goals first
        | (exfalso; omega)
        | trace_state
end
end Go.Proofs.Ytppdbmobcfedcaa
end
section
set_option linter.unusedVariables false
set_option linter.unusedSimpArgs false
set_option maxHeartbeats 8000000
set_option linter.unusedSectionVars false
namespace Go.Proofs.Ytppdbmobcfedcaa
open Lf Go
attribute [local irreducible] PureOp EffOp Ev RG W Then InBlock Lf.Fin nth App InitE Pick SubE EvL EvD EvP EvR ResL Lf.Lex SubR SubBR RA RAll EvC FinO FinM ResM
section
variable {L : List Let} {us : List Int}
def OfC (L : List Let) (us : List Int) (e : Exp) (path : List Int) : UR → Prop
  | .ok u => ACalls Try.prog 46 [scV L us, aE e, pI path] (.pv (cI u))
  | .bad p x => PanCalls Try.prog 46 [scV L us, aE e, pI path] (whyC p x)
theorem nth_pad {vs : List Int} {n j : Nat} (h : j < n) : nth ((List.range n).map fun i => nth vs i) j = nth vs j := by
  rw [nth, List.getD_eq_getElem?_getD, List.getElem?_map, List.getElem?_range h]; rfl
theorem ofU_ok (hL : L.length ≤ 20) (hu : us.length = L.length) : ∀ (d : Nat) (e : Exp) (path : List Int), rightF d e = true → path.length + d ≤ 20 → OfC L us e path (ofU L us e path)
  | 0, e, path, hr, _ => by obtain ⟨op, n, u, s, l⟩ := e; rw [rightF] at hr; cases hr
  | d + 1, .mk op n u s l, path, hr, hp => by
    obtain ⟨hl, h15⟩ := right_lenU hr
    have kids := right_kidsU hr
    have ih : ∀ j, j < l.length → OfC L us (nth l j) (path ++ [(j : Int)]) (ofU L us (nth l j) (path ++ [(j : Int)])) := fun j hj =>
      ofU_ok hL hu d _ _ (kids _ (nth_mem hj)) (by simp; omega)
    have ha := aE_mk op n u s l
    rw [ofU]
    unfold nodeU
    by_cases h0 : op = 0
    · rw [if_pos h0]
      show ACalls _ _ _ _
      rw [ha]
      exact of_leaf u (.inl ⟨h0, rfl⟩)
    rw [if_neg h0]
    by_cases h2 : op = 2
    · rw [if_pos h2]
      show ACalls _ _ _ _
      rw [ha]
      exact of_leaf 1 (.inr (.inl ⟨h2, rfl⟩))
    rw [if_neg h2]
    by_cases h3 : op = 3
    · rw [if_pos h3]
      show ACalls _ _ _ _
      rw [ha]
      exact of_leaf 2 (.inr (.inr ⟨h3, rfl⟩))
    rw [if_neg h3]
    by_cases h1 : op = 1
    · rw [if_pos h1]
      have hn := nameU_ok hL hu s
      subst h1
      by_cases hb : nameU L us s = -1
      · rw [if_pos hb]
        show PanCalls _ _ _ _
        rw [ha]
        rw [hb] at hn
        exact of_name_bad (by omega) hn
      · rw [if_neg hb]
        show ACalls _ _ _ _
        rw [ha]
        exact of_name _ hb hn
    rw [if_neg h1]
    cases hA : argsU L us l path 0 with
    | bad p x =>
      obtain ⟨k, hk, ⟨vs, hvs⟩, hz⟩ := args_bad l path 0 p x hA
      show PanCalls _ _ _ _
      rw [ha]
      refine of_args_bad (vs := (List.range l.length).map fun i => nth vs i) (m := k) ⟨h0, h1, h2, h3⟩ (by omega) hl (by simp) hk (fun j hj => ?_) ?_
      · have h := ih j (by omega)
        have e := hvs j hj
        rw [Nat.zero_add] at e
        rw [e] at h
        rw [nth_pad (by omega)]
        exact h
      · have h := ih k hk
        rw [Nat.zero_add] at hz
        rw [hz] at h
        exact h
    | ok vs =>
      obtain ⟨hv, hvs⟩ := args_ok l path 0 vs hA
      have hc : ∀ j : Nat, j < l.length → ACalls Try.prog 46 [scV L us, aE (nth l j), pI (path ++ [(j : Int)])] (.pv (cI (nth vs j))) := fun j hj => by
        have h := ih j hj
        have e := hvs j hj
        rw [Nat.zero_add] at e
        rw [e] at h
        exact h
      have hj := joined_ok op vs (by omega) (fun q => by rw [hv]; exact h15 q)
      dsimp only
      by_cases hb : joinF op vs = -1
      · rw [if_pos hb]
        show PanCalls _ _ _ _
        rw [ha]
        rw [hb] at hj
        exact of_args_none ⟨h0, h1, h2, h3⟩ (by omega) hl hv hc hj
      · rw [if_neg hb]
        show ACalls _ _ _ _
        rw [ha]
        exact of_args _ ⟨h0, h1, h2, h3⟩ (by omega) hl hv hc hj hb
end
end Go.Proofs.Ytppdbmobcfedcaa
end
section
set_option linter.unusedVariables false
set_option linter.unusedSimpArgs false
set_option linter.unusedSectionVars false
namespace Lf
open Go Go.RowKit
section
variable {P : Program} {G : Ghost} {A : St} {c0 : PK} {Q : Exit → St → Prop} {Φ : Frz} {β : Own} {a : Act} {w : World} {T : TT}
theorem W.use {c : Code} (hs : Sat G Φ β A a w) (h : W P G c Q A) : c.wp P (fun e a' w' => ∃ A' Φ' β', Q e A' ∧ Sat G Φ' β' A' a' w' ∧ Φ.le Φ') a w := h Φ β a w hs
theorem WP.use {c : Code} (hs : Sat G Φ β A a w) (h : WP P G c0 c Q A) : c.wp P (fun e a' w' => (∃ A' Φ' β', Q e A' ∧ Sat G Φ' β' A' a' w' ∧ Φ.le Φ') ∨ PanX G c0 Φ e a' w') a w := h Φ β a w hs
theorem PanX.get {e : Exit} (h : PanX G c0 Φ e a w) : ∃ v Φ', e = .panic [{ v, recovered := false }] ∧ Rel Φ' v c0.c ∧ Φ.le Φ' ∧ ∃ β' A', c0.q A' ∧ Sat G Φ' β' A' a w := h
/-- with deferred calls laid by -/
theorem Sat.lay {D : List Deferred} {a' : Act} (hs : Sat G Φ β A a w) (ht : a'.tmps = a.tmps) (hd : a'.defers = D) : Sat { G with D := D } Φ β A a' w :=
  ⟨⟨hs.kept.os, hs.kept.tape, hs.kept.output, hs.kept.size, hs.kept.block⟩, hs.fits, hs.old, by rw [ht]; exact hs.siz, hd, fun t q v h => by rw [ht]; exact hs.env t q v h, hs.blk, hs.vir, hs.inj⟩
/-- what a type assertion finds -/
theorem Q_assertI {x : Operand} {p : Prop} {n0 : Nat} {env : List (Nat × (Prop × AV))} {bl : List (Nat × Blk)} {dst : Option Nat} {ty : TypeId} {pos : String} {after : Array Edge} {gd : Option (Nat × Bool)} {t xt : Nat} {ti : TI} {cs : List Cell} {fs : List (Nat × Nat)}
    (hT : TOK P T) (ht : T t = some ti) (hk : ti.kind = .struct fs) (hx : Ev (St.mk n0 env bl) p x (.pv (.one (.iface t cs)))) (h2 : Nat.ble 2 cs.length = true) :
    PureOp P G (St.mk n0 env bl) ⟨dst, .typeAssert x xt t false, ty, pos, after, gd⟩ p (.pv (.agg cs)) := PureOp.val fun Φ β a w hs hp => by
  have hr : Rel Φ (a.eval x) (.iface t cs) := hs.ev hx hp
  obtain ⟨sfs, hu, _⟩ : ∃ fields, P.underlying t = some (.struct fields) ∧ fields.toList.map (fun f => (f.offset, f.type)) = fs := by
    have := (hT t ti ht).kind
    rw [hk] at this
    exact this
  generalize hv : a.eval x = v at hr
  cases hr with
  | iface1 t v c hv' => simp at h2
  | ifaceN t vs cs g h1 h3 h4 h5 =>
    refine ⟨.agg vs, exec_val (m := Instr.typeAssert (a.eval x) xt t false) (by simp only [execOp]) ?_, vs, rfl, ?_⟩
    · rw [hv]; simp [Instr.typeAssert, run_underlying hu]
    · refine RelL.of_get (by simpa using h1) fun j c hj => ⟨g j, by have := h4 j c hj; simpa using this, h5 j c hj⟩
theorem cell1 {n b cap ty : Nat} {c : Cell} (hs : Sat G Φ β A a w) (hl : lk A.blks n = some ⟨ty, 1, [[c]]⟩) (hb : β n = some (b, cap)) (ho : Nat.ble mapTag ty = false) : ∃ v, w.cell? ⟨b, 0, none⟩ = some v ∧ Rel Φ v c := by
  obtain ⟨cur, g1, g2, g3, g4, g5, g6⟩ := (hs.blk n _ b cap hl hb).1.cells (by unfold Blk.ob; exact ho)
  obtain ⟨v, q1, q2⟩ := g6 0 0 [c] c rfl rfl
  refine ⟨v, ?_, q2⟩
  rw [cell_of_row w b 0 cur _ (0, 0) g1]
  simpa using q1
/-- two results in cells: one of one cell, one struct -/
theorem res2 (hT : TOK P T) {fn : Func} {t1 ty1 t2 ty2 m1 m2 : Nat} {ti1 ti2 : TI} {s2 : Nat} {c : Cell} {cs : List Cell} (hr : fn.results = #[.cell t1 ty1, .cell t2 ty2]) (hs : Sat G Φ β A a w)
    (h1 : lk A.env t1 = some (True, .addr m1 0 0)) (hl1 : lk A.blks m1 = some ⟨ty1, 1, [[c]]⟩) (hty1 : T ty1 = some ti1) (ha1 : ti1.kind.isAgg = some false)
    (h2 : lk A.env t2 = some (True, .addr m2 0 0)) (hl2 : lk A.blks m2 = some ⟨ty2, s2, [cs]⟩) (hty2 : T ty2 = some ti2) (ha2 : ti2.kind.isAgg = some true) (hz2 : ti2.sz = s2) :
    ∃ v, (results fn a.tmps).run P w = .ok v w ∧ AVRel Φ (fun _ => none) [] v (.tup [.one c, .agg cs]) := by
  subst hz2
  obtain ⟨b, cap, B, k1, k2, hob, k3⟩ := (hs.env t1 True _ h1).1 trivial
  rw [hl1] at k2
  obtain rfl := Option.some.inj k2
  obtain ⟨v1, e1, e2⟩ := cell1 hs hl1 k1 (by simpa [Blk.ob] using hob)
  obtain ⟨v2, e3, e4⟩ := run_cell hT hs hty2 ha2 h2 hl2
  have r1 : (asAddr (a.tmps.getD t1 undef) >>= loadVar ty1).run P w = .ok v1 w := by
    rw [k3]
    simp [asAddr, loadVar, run_isAgg hT hty1 ha1, e1]
  refine ⟨.tuple #[v1, v2], ?_, #[v1, v2], rfl, rfl, fun j p hp => ?_⟩
  · have e6 : (List.mapM (m := Sem) (fun
      | ResultVar.tmp t => pure (a.tmps.getD t undef)
      | .cell t ty => do loadVar ty (← asAddr (a.tmps.getD t undef))) [ResultVar.cell t2 ty2]).run P w = .ok [v2] w := by
      rw [List.mapM_cons, Sem.run_bind]
      erw [e3]
      rfl
    have e5 : (List.mapM (m := Sem) (fun
      | ResultVar.tmp t => pure (a.tmps.getD t undef)
      | .cell t ty => do loadVar ty (← asAddr (a.tmps.getD t undef))) [ResultVar.cell t1 ty1, ResultVar.cell t2 ty2]).run P w = .ok [v1, v2] w := by
      rw [List.mapM_cons, Sem.run_bind]
      erw [r1]
      simp only [Result.andThen, Sem.run_bind]
      erw [e6]
      rfl
    have er : fn.results = [ResultVar.cell t1 ty1, ResultVar.cell t2 ty2].toArray := hr
    unfold results
    rw [er, List.mapM_toArray, bind_map_left, Sem.run_bind]
    erw [e5]
    rfl
  · match j, hp with
    | 0, hp => simp at hp; subst hp; exact ⟨v1, rfl, e2⟩
    | 1, hp => simp at hp; subst hp; exact ⟨v2, rfl, e4⟩
theorem invoke_run {f : FuncId} {cap args : Array Value} (hf : FnOK P f) : (invoke (.fn (.func f) cap) args).run P w = .ok (.enter f (args ++ cap)) w := by
  obtain ⟨fn, h1, h2, h3⟩ := hf
  have h2' : ¬ fn.name = "runtime.NumGoroutine" := by simpa using h2
  have h3' : ¬ fn.body = none := by intro hx; rw [hx] at h3; cases h3
  simp only [invoke, callFunc]
  simp [h1, h2', h3']
theorem mkfn_run {f : FuncId} {xs : List Operand} {dst : Option Nat} {ty : TypeId} {pos : String} {after : Array Edge} {gd : Option (Nat × Bool)} {ρ : Operand → Value} :
    (execOp ρ ⟨dst, .makeFunc (.func f) #[] xs.toArray, ty, pos, after, gd⟩).run P w = .ok (.value (.func (.func f) #[] (xs.map ρ).toArray)) w := by
  simp [execOp, Instr.makeFunc]
theorem defer_run {f : FuncId} {x : Operand} {cap : Array Value} {dst : Option Nat} {ty : TypeId} {pos : String} {after : Array Edge} {gd : Option (Nat × Bool)} {ρ : Operand → Value} {ats : Array TypeId} (hx : ρ x = .func (.func f) #[] cap) :
    (execOp ρ ⟨dst, .defer ⟨.value x, #[], ats⟩, ty, pos, after, gd⟩).run P w = .ok (.defer ⟨.fn (.func f) cap, #[]⟩) w := by
  simp [execOp, resolve, hx, Deferred.ofValue]
/-- a pin -/
theorem Sat.pinned {n t b c : Nat} {B : Blk} (hs : Sat G Φ β A a w) (hb : β n = some (b, c)) (hl : lk A.blks n = some B) (ho : B.ob = false) : Sat G Φ β (St.mk A.n ((t, (True, .pin n b c (fun _ => a.tmps.getD t undef))) :: A.env) A.blks) a w :=
  ⟨hs.kept, hs.fits, hs.old, hs.siz, hs.dfr, fun s q v h => by
    rw [lk_cons] at h
    split at h
    · rename_i e; subst e
      simp only [Option.some.injEq, Prod.mk.injEq] at h
      obtain ⟨rfl, rfl⟩ := h
      exact ⟨fun _ => ⟨B, hb, hl, ho, rfl⟩, fun hq => (hq trivial).elim⟩
    · exact hs.env s q v h, hs.blk, hs.vir, hs.inj⟩
end
end Lf
end
section
set_option linter.unusedVariables false
set_option linter.unusedSimpArgs false
set_option maxHeartbeats 8000000
set_option linter.unusedSectionVars false
namespace Go.Proofs.Ytppdbmobcfedcaa
open Lf Go
attribute [local irreducible] PureOp EffOp Ev RG W Then InBlock Lf.Fin nth App InitE Pick SubE EvL EvD EvP EvR ResL Lf.Lex SubR SubBR RA RAll EvC FinO FinM ResM
attribute [local irreducible] WP PanOp PanX
section
theorem catch_idle (p q : Value) (w : World) : CallsD Try.prog 45 #[p, q] .returning w fun e u' w' => e = .returned (.tuple #[]) ∧ u' = .returning ∧ w' = w := by
  refine callsD_of_wpS Try.func45 rfl fun c₀ cs hu => ?_
  apply wpS_seq
  apply wpS_region
  simp [wpOpsS, go_sem, recoverD, hu, Try.ntmps45, Exit.thenS]
  apply wpS_seq
  apply wpS_region
  simp [wpOpsS, go_sem, Exit.thenS]
  refine wpS_cond (t := false) (by simp [Act.eval, Array.replicate]) ?_
  simp only [Bool.false_eq_true, if_false]
  refine wpS_of_wp (wp_skip ?_)
  cases c₀
  simp_all [bodyPostS, results, Try.results45]
abbrev pinU (n b k : Nat) : Prop × AV := (True, .pin n b k (fun _ => undef))
abbrev S0 (x c1 c2 d1 d2 : Cell) (b4 k4 b5 k5 : Nat) : St := St.mk 8 [(0, (True, .addr 4 0 0)), (1, (True, .addr 5 0 0)), (2, (True, .pv (.one (.iface 57 [d1, d2])))), (1000000, pinU 4 b4 k4), (1000001, pinU 5 b5 k5)] [(4, ⟨3, 1, [[x]]⟩), (5, ⟨57, 2, [[c1, c2]]⟩)]
abbrev SF (d1 d2 : Cell) (b4 k4 b5 k5 : Nat) : St := St.mk 8 [(1000000, pinU 4 b4 k4), (1000001, pinU 5 b5 k5)] [(4, ⟨3, 1, [[.int .i64 0]]⟩), (5, ⟨57, 2, [[d1, d2]]⟩)]
theorem catch_pan {G : Ghost} {Φ : Frz} {β : Own} {w : World} {p q v : Value} {x c1 c2 d1 d2 : Cell} {b4 k4 b5 k5 : Nat} (hD : G.D = []) (hs : Sat G Φ β (S0 x c1 c2 d1 d2 b4 k4 b5 k5) { tmps := #[p, q, v, v, v, .bool true, undef, undef], defers := [] } w) :
    CallsD Try.prog 45 #[p, q] (.panicking [{ v, recovered := false }]) w fun e u' w' => e = .returned (.tuple #[]) ∧ u' = .panicking [{ v, recovered := true }] ∧ ∃ Φ' β' a', Φ.le Φ' ∧ Sat G Φ' β' (SF d1 d2 b4 k4 b5 k5) a' w' := by
  obtain ⟨pv, rfl⟩ : ∃ pv, v = .iface 57 pv := by
    have h : Rel Φ v (.iface 57 [d1, d2]) := (hs.env 2 True _ rfl).1 trivial
    cases h with
    | ifaceN t vs cs g h1 h2 h3 h4 => exact ⟨_, rfl⟩
  refine callsD_of_wpS Try.func45 rfl fun c₀ cs hu => ?_
  apply wpS_seq
  apply wpS_region
  simp [wpOpsS, go_sem, recoverD, hu, Try.ntmps45, Exit.thenS]
  apply wpS_seq
  apply wpS_region
  simp [wpOpsS, go_sem, Exit.thenS]
  refine wpS_cond (t := true) (by simp [Act.eval, Array.replicate]) ?_
  simp only [if_true]
  refine wpS_of_wp (wp_mono (W.use (Q := fun e A => e = .normal ∧ Le A (SF d1 d2 b4 k4 b5 k5)) hs ?_) ?_)
  rotate_left
  · rintro e a' w' ⟨A', Φ', β', ⟨rfl, hle⟩, hs', l1⟩
    obtain ⟨Φ2, β2, l2, hs2⟩ := hle G Φ' β' a' w' hs'
    exact ⟨hs2.dfr.trans hD, _, rfl, .tuple #[], by simp [results, Try.results45], rfl, rfl, Φ2, Frz.le_trans l1 l2, β2, a', hs2⟩
  · show W _ _ _ _ (St.mk 8 [(0, (True, .addr 4 0 0)), (1, (True, .addr 5 0 0)), (2, (True, .pv (.one (.iface 57 [d1, d2])))), (1000000, pinU 4 b4 k4), (1000001, pinU 5 b5 k5)] [(4, ⟨3, 1, [[x]]⟩), (5, ⟨57, 2, [[c1, c2]]⟩)])
    repeat' (first | ((first | apply U_); (first | (apply Q_assertI TYok; exact rfl; exact rfl; exact Ev.auto; exact rfl) | exact QX.B TYok); exact rfl) | refine SX.Store TYok (h := ?_) | refine SC ?_ | (refine W.drawA (id := 2) (L := [false, false, false, false]) mixed rfl ?_) | exact RAll.nil | (refine RAll.cons rfl ?_ ?_) | (refine RA.step (L := [false, false, false, false]) (i := 0) (is := [2]) (by kernel_rfl) ?_) | (refine RA.step (L := [false, false, true, false]) (i := 0) (is := []) (by kernel_rfl) ?_) | (refine RA.step (L := [true, false, true, false]) (i := 1) (is := []) (by kernel_rfl) ?_) | (refine RA.step (L := [true, true, true, false]) (i := 3) (is := []) (by kernel_rfl) ?_) | (refine RA.done (L := [true, true, true, true]) (by kernel_rfl) ?_) | (refine RA.step (L := [true, false, false, false]) (i := 1) (is := [2]) (by kernel_rfl) ?_) | (refine RA.step (L := [true, true, false, false]) (i := 2) (is := []) (by kernel_rfl) ?_) | (refine W.condA (ht := fun hb => ?_) (hf := fun hb => ?_) <;> (try simp at hb) <;> (try (exfalso; omega))))
    all_goals first
      | (refine ⟨rfl, Le.st rfl (by repeat (first | exact SubEK.nil | refine SubEK.skip rfl ?_ | refine SubEK.one rfl (by first | exact trivial | exact rfl) ?_)) (by repeat (first | exact SubBK.nil | refine SubBK.skip rfl ?_ | refine SubBK.one rfl ?_))⟩)
      | trace_state
end
end Go.Proofs.Ytppdbmobcfedcaa
end
section
set_option linter.unusedVariables false
set_option linter.unusedSimpArgs false
set_option maxHeartbeats 8000000
set_option linter.unusedSectionVars false
namespace Go.Proofs.Ytppdbmobcfedcaa
open Lf Go
attribute [local irreducible] PureOp EffOp Ev RG W Then InBlock Lf.Fin nth App InitE Pick SubE EvL EvD EvP EvR ResL Lf.Lex SubR SubBR RA RAll EvC FinO FinM ResM
attribute [local irreducible] WP PanOp PanX
section
variable {L : List Let} {us : List Int}
abbrev Q45 (b4 k4 b5 k5 : Nat) (f4 f5 : Nat → Value) (x c1 c2 : Cell) (A : St) : Prop :=
  lk A.env 4 = some (True, .addr 4 0 0) ∧ lk A.env 5 = some (True, .addr 5 0 0) ∧ lk A.env 1000000 = some (True, .pin 4 b4 k4 f4) ∧ lk A.env 1000001 = some (True, .pin 5 b5 k5 f5) ∧ lk A.blks 4 = some ⟨3, 1, [[x]]⟩ ∧ lk A.blks 5 = some ⟨57, 2, [[c1, c2]]⟩
theorem fn45 : FnOK Try.prog 45 := ⟨Try.f45, Try.func45, rfl, rfl⟩
theorem fn27 : FnOK Try.prog 27 := ⟨Try.f27, Try.func27, rfl, rfl⟩
theorem two_blk {A : St} {n : Nat} {B B4 B5 : Blk} (h : lk [(4, B4), (5, B5)] n = some B) (h4 : lk A.blks 4 = some B4) (h5 : lk A.blks 5 = some B5) : lk A.blks n = some B := by
  simp only [lk_cons] at h
  split at h
  · rename_i e; subst e; rw [← h]; exact h4
  split at h
  · rename_i e; subst e; rw [← h]; exact h5
  · simp [lk] at h
theorem unit_all {e : Exp} {r : List PV} (h : (∃ u, ACalls Try.prog 46 [scV L us, aE e, pI []] (.pv (cI u)) ∧ r = [cI u, .agg [.slnil, .int .i64 0]]) ∨ (∃ p x, PanCalls Try.prog 46 [scV L us, aE e, pI []] (whyC p x) ∧ r = [cI 0, .agg [.sl (p.map encJ), .int .i64 x]])) :
    ACalls Try.prog 27 [scV L us, aE e] (.tup r) := by
  refine ⟨fn27, fun Φ w vs hfit harg => ?_⟩
  obtain ⟨G, hw0, hK, hF0, hD, hs0⟩ : ∃ G : Ghost, G.w0 = w ∧ (∀ b, b < w.heap.size → G.K b) ∧ G.F0 = Φ ∧ G.D = [] ∧ Sat G Φ (fun _ => none) (St.init 11 [scV L us, aE e]) { tmps := vs ++ Array.replicate (Try.f27.ntmps - vs.size) undef, defers := [] } w :=
    ⟨{ w0 := w, K := fun b => b < w.heap.size, F0 := Φ, lt := fun b h => h }, rfl, fun b h => h, rfl, rfl, sat_init (f := 27) (fn := Try.f27) rfl hfit harg⟩
  have hfin : ∀ {Φ' : Frz} {β' : Own} {A' : St} {a' : Act} {w' : World} {D : List Deferred}, Sat { G with D := D } Φ' β' A' a' w' → Φ.le Φ' → ∀ v, AVRel Φ' (fun _ => none) [] v (.tup r) →
      ∃ v' Φ'', Ending.returned v = .returned v' ∧ AVRel Φ'' (fun _ => none) [] v' (.tup r) ∧ Φ.le Φ'' ∧ (∀ b, b < w.heap.size → Φ'' b = Φ b) ∧ Fits Φ'' w' ∧ RowKit.Below w.heap.size w w' := fun hs hle v hv => by
    have k := hs.kept
    refine ⟨v, _, rfl, hv, hle, fun b hb => by have := hs.old b (hK b hb); rw [this]; exact congrFun hF0 b, hs.fits, ?_⟩
    subst hw0
    exact ⟨k.os, k.tape, k.output, k.size, fun b hb => k.block b (hK b hb)⟩
  refine calls_of_wp_defers Try.func27 rfl ?_
  refine wp_seq (wp_mono (W.use (Q := fun e1 A => e1 = .normal ∧ ∃ B C, Le A B ∧ Le B C ∧ Le C (St.mk 11 [(2, (True, .pv (.one (.ptr (scV L us).cells)))), (3, (True, .pv (.one (.ptr (aE e).cells)))), (4, (True, .addr 4 0 0)), (5, (True, .addr 5 0 0))] [(4, ⟨3, 1, [[.int .i64 0]]⟩), (5, ⟨57, 2, [[.slnil, .int .i64 0]]⟩)])) hs0 ?_) ?_)
  · clear h
    refine W.initA (hw := ?_)
    repeat' (first | ((first | apply U_); (first | exact QX.B TYok | exact QX.Build TYok | exact QX.Fun TYok); exact rfl) | refine SX.Alloc TYok (h := ?_) | refine SX.Store TYok (h := ?_) | refine SX.Box TYok (h := ?_) | refine SC ?_ | (refine W.condA (ht := fun hb => ?_) (hf := fun hb => ?_) <;> (try simp at hb) <;> (try (exfalso; omega))))
    all_goals first
      | (refine ⟨rfl, _, _, Le.freeze1 (m := 2) rfl, Le.freeze1 (m := 3) rfl, Le.st rfl (by repeat (first | exact SubEK.nil | refine SubEK.skip rfl ?_ | refine SubEK.one rfl (by first | exact trivial | exact rfl) ?_)) (by repeat (first | exact SubBK.nil | refine SubBK.skip rfl ?_ | refine SubBK.one rfl ?_))⟩)
      | trace_state
  rintro e1 a1 w1 ⟨A1, Φ1, β1, ⟨rfl, B, C, q1, q2, q3⟩, hs1, l1⟩
  obtain ⟨Φ2, β2, l2, hs2⟩ := q1 G Φ1 β1 a1 w1 hs1
  obtain ⟨Φ3, β3, l3, hs3⟩ := q2 G Φ2 β2 a1 w1 hs2
  obtain ⟨Φ4, β4, l4, hs4⟩ := q3 G Φ3 β3 a1 w1 hs3
  have l5 : Φ.le Φ4 := Frz.le_trans l1 (Frz.le_trans l2 (Frz.le_trans l3 l4))
  clear hs1 hs2 hs3 q1 q2 q3 l1 l2 l3 l4 hs0
  obtain ⟨b4, k4, B4, i1, i2, i3, i4⟩ := (hs4.env 4 True _ rfl).1 trivial
  obtain rfl := Option.some.inj (show some (⟨3, 1, [[.int .i64 0]]⟩ : Blk) = some B4 from i2)
  obtain ⟨b5, k5, B5, j1, j2, j3, j4⟩ := (hs4.env 5 True _ rfl).1 trivial
  obtain rfl := Option.some.inj (show some (⟨57, 2, [[.slnil, .int .i64 0]]⟩ : Blk) = some B5 from j2)
  have i5 : a1.eval (.tmp 4) = .pointer (some ⟨b4, 0, none⟩) := i4
  have j5 : a1.eval (.tmp 5) = .pointer (some ⟨b5, 0, none⟩) := j4
  have hsz : 11 ≤ a1.tmps.size := hs4.siz
  refine wp_seq ?_
  refine wp_region_lit ?_
  refine wpList_plain rfl fun K hK1 => ?_
  unfold Oper.wp
  rw [mkfn_run (xs := [.tmp 4, .tmp 5])]
  refine hK1 _ _ ?_
  refine wpList_plain rfl fun K2 hK2 => ?_
  unfold Oper.wp
  rw [defer_run (f := 45) (cap := #[.pointer (some ⟨b4, 0, none⟩), .pointer (some ⟨b5, 0, none⟩)]) (by
    show (Act.put a1 (some 6) _).tmps.getD 6 undef = _
    rw [put_getD (by omega), if_pos rfl, ← i5, ← j5]; rfl)]
  refine hK2 _ _ ?_
  refine wpList_nil ?_
  have hs5 := (hs4.set (d := 6) (q := True) (v := .top) (u := .func (.func 45) #[] #[a1.eval (.tmp 4), a1.eval (.tmp 5)]) Φ4.le_refl (fun _ _ => rfl) hs4.fits (RowKit.Below.refl _ _) (by show 6 < 11; decide) (fun _ => trivial) (fun hn => (hn trivial).elim))
  have hd5 : (a1.put (some 6) (.func (.func 45) #[] #[a1.eval (.tmp 4), a1.eval (.tmp 5)])).defers = [] := hs5.dfr.trans hD
  clear hK1 hK2 hs4
  generalize hp : (Value.pointer (some ⟨b4, 0, none⟩)) = p
  generalize hq : (Value.pointer (some ⟨b5, 0, none⟩)) = q
  have hs6 := hs5.lay (a' := (Act.put { a1.put (some 6) (.func (.func 45) #[] #[a1.eval (.tmp 4), a1.eval (.tmp 5)]) with defers := ⟨.fn (.func 45) #[p, q], #[]⟩ :: (a1.put (some 6) (.func (.func 45) #[] #[a1.eval (.tmp 4), a1.eval (.tmp 5)])).defers } none undef)) (D := [⟨.fn (.func 45) #[p, q], #[]⟩]) rfl (by rw [hd5]; rfl)
  have hs7 := (hs6.pinned (t := 1000001) (n := 5) j1 rfl rfl).pinned (t := 1000000) (n := 4) i1 rfl rfl
  clear hs5 hs6 hd5
  show Code.wp _ _ _ (Act.put { a1.put (some 6) (.func (.func 45) #[] #[a1.eval (.tmp 4), a1.eval (.tmp 5)]) with defers := ⟨.fn (.func 45) #[p, q], #[]⟩ :: (a1.put (some 6) (.func (.func 45) #[] #[a1.eval (.tmp 4), a1.eval (.tmp 5)])).defers } none undef) w1
  generalize (Act.put { a1.put (some 6) (.func (.func 45) #[] #[a1.eval (.tmp 4), a1.eval (.tmp 5)]) with defers := ⟨.fn (.func 45) #[p, q], #[]⟩ :: (a1.put (some 6) (.func (.func 45) #[] #[a1.eval (.tmp 4), a1.eval (.tmp 5)])).defers } none undef) = a2 at *
  generalize (fun _ : Nat => a2.tmps.getD 1000000 undef) = f4 at *
  generalize (fun _ : Nat => a2.tmps.getD 1000001 undef) = f5 at *
  replace hs7 : Sat { G with D := [⟨.fn (.func 45) #[p, q], #[]⟩] } Φ4 β4 (St.mk 11 [(1000000, (True, .pin 4 b4 k4 f4)), (1000001, (True, .pin 5 b5 k5 f5)), (6, (True, .top)), (2, (True, .pv (.one (.ptr (scV L us).cells)))), (3, (True, .pv (.one (.ptr (aE e).cells)))), (4, (True, .addr 4 0 0)), (5, (True, .addr 5 0 0))] [(4, ⟨3, 1, [[.int .i64 0]]⟩), (5, ⟨57, 2, [[.slnil, .int .i64 0]]⟩)]) a2 w1 := hs7
  rcases h with ⟨u, hc, rfl⟩ | ⟨p', x, hz, rfl⟩
  · refine wp_seq (wp_mono (W.use (Q := fun e1 A => e1 = .normal ∧ Q45 b4 k4 b5 k5 f4 f5 (.int .i64 u) .slnil (.int .i64 0) A) hs7 ?_) ?_)
    · clear hfin hs7
      repeat' (first | ((first | apply U_); (first | exact QX.B TYok | exact QX.Build TYok | exact QX.Fun TYok | exact QCd (hc)); exact rfl) | refine SX.Alloc TYok (h := ?_) | refine SX.Store TYok (h := ?_) | refine SX.Box TYok (h := ?_) | refine SC ?_ | (refine W.condA (ht := fun hb => ?_) (hf := fun hb => ?_) <;> (try simp at hb) <;> (try (exfalso; omega))))
      all_goals first
        | exact ⟨rfl, rfl, rfl, rfl, rfl, rfl, rfl⟩
        | trace_state
    rintro e1 a3 w3 ⟨A3, Φ5, β5, ⟨rfl, g1, g2, g3, g4, g5, g6⟩, hs8, l6⟩
    refine wp_ret ?_
    show Leaves Try.prog Try.f27 a3.tmps _ a3.defers .returning w3
    rw [hs8.dfr]
    refine leaves_cons (f := 45) (args := #[p, q]) (by simp) (by rw [invoke_run fn45]; simp) ?_
    refine (catch_idle p q w3).mono ?_
    rintro e2 u2 w4 ⟨rfl, rfl, rfl⟩
    obtain ⟨v, hv1, hv2⟩ := res2 TYok (fn := Try.f27) rfl hs8 g1 g5 rfl rfl g2 g6 rfl rfl rfl
    exact ⟨v, hv1, hfin hs8 (Frz.le_trans l5 l6) v hv2⟩
  · refine wp_seq (wp_mono (WP.use (c0 := ⟨whyC p' x, Q45 b4 k4 b5 k5 f4 f5 (.int .i64 0) .slnil (.int .i64 0)⟩) (Q := fun _ _ => False) hs7 ?_) ?_)
    · clear hfin hs7
      refine WP.regionP (pre := [_, _]) (o := _) (suf := [_, _, _]) rfl rfl ?_
      repeat' (first | ((first | apply U_); (first | exact QX.B TYok | exact QX.Build TYok | exact QX.Fun TYok); exact rfl) | refine SX.Alloc TYok (h := ?_) | refine SX.Store TYok (h := ?_) | refine SX.Box TYok (h := ?_) | (apply PanOp.call hz; exact EvD.auto; exact ⟨rfl, rfl, rfl, rfl, rfl, rfl⟩) | refine WP.seq ?_ | refine WP.block ?_ | (refine WP.condA (ht := fun hb => ?_) (hf := fun hb => ?_) <;> (try simp at hb) <;> (try (exfalso; omega))) | (refine WP.of_W (c := .skip) ?_) | (refine WP.of_W (c := .ret) ?_) | (refine WP.of_W (c := .exit _) ?_) | (refine WP.of_W (c := .region _ _ _) ?_) | refine SC ?_ | (refine W.condA (ht := fun hb => ?_) (hf := fun hb => ?_) <;> (try simp at hb) <;> (try (exfalso; omega))))
      all_goals trace_state
    rintro e1 a3 w3 (⟨_, _, _, hF, _⟩ | hx)
    · exact hF.elim
    obtain ⟨v, Φ5, rfl, hv, l6, β5, A3, ⟨g1, g2, g3, g4, g5, g6⟩, hs8⟩ := hx.get
    show Leaves Try.prog Try.f27 a3.tmps _ a3.defers (.panicking [{ v, recovered := false }]) w3
    rw [hs8.dfr]
    refine leaves_cons (f := 45) (args := #[p, q]) (by simp) (by rw [invoke_run fn45]; simp) ?_
    obtain ⟨_, m1, _, _, _⟩ := (hs8.env 1000000 True _ g3).1 trivial
    obtain ⟨_, m2, _, _, _⟩ := (hs8.env 1000001 True _ g4).1 trivial
    have hs9 : Sat G Φ5 β5 (S0 (.int .i64 0) .slnil (.int .i64 0) (.sl (p'.map encJ)) (.int .i64 x) b4 k4 b5 k5) { tmps := #[p, q, v, v, v, .bool true, undef, undef], defers := [] } w3 := by
      refine ⟨⟨hs8.kept.os, hs8.kept.tape, hs8.kept.output, hs8.kept.size, hs8.kept.block⟩, hs8.fits, hs8.old, by simp, hD.symm, fun t qq vv hl => ?_, fun n B b cap hl hb => ?_, fun n B hl hb => ?_, fun n n' B B' b c c' hl hl' hb hb' => ?_⟩
      · have hp0 : p = .pointer (some ⟨b4, 0, none⟩) := hp.symm
        have hq0 : q = .pointer (some ⟨b5, 0, none⟩) := hq.symm
        have hl : lk [(0, (True, AV.addr 4 0 0)), (1, (True, .addr 5 0 0)), (2, (True, .pv (.one (.iface 57 [.sl (p'.map encJ), .int .i64 x])))), (1000000, pinU 4 b4 k4), (1000001, pinU 5 b5 k5)] t = some (qq, vv) := hl
        simp only [lk_cons] at hl
        split at hl
        · rename_i et; subst et
          simp only [Option.some.injEq, Prod.mk.injEq] at hl
          obtain ⟨rfl, rfl⟩ := hl
          exact ⟨fun _ => ⟨b4, k4, _, m1, rfl, rfl, hp0⟩, fun hn => (hn trivial).elim⟩
        split at hl
        · rename_i et; subst et
          simp only [Option.some.injEq, Prod.mk.injEq] at hl
          obtain ⟨rfl, rfl⟩ := hl
          exact ⟨fun _ => ⟨b5, k5, _, m2, rfl, rfl, hq0⟩, fun hn => (hn trivial).elim⟩
        split at hl
        · rename_i et; subst et
          simp only [Option.some.injEq, Prod.mk.injEq] at hl
          obtain ⟨rfl, rfl⟩ := hl
          exact ⟨fun _ => hv, fun hn => (hn trivial).elim⟩
        split at hl
        · rename_i et; subst et
          simp only [Option.some.injEq, Prod.mk.injEq] at hl
          obtain ⟨rfl, rfl⟩ := hl
          exact ⟨fun _ => ⟨_, m1, rfl, rfl, rfl⟩, fun hn => (hn trivial).elim⟩
        split at hl
        · rename_i et; subst et
          simp only [Option.some.injEq, Prod.mk.injEq] at hl
          obtain ⟨rfl, rfl⟩ := hl
          exact ⟨fun _ => ⟨_, m2, rfl, rfl, rfl⟩, fun hn => (hn trivial).elim⟩
        · simp [lk] at hl
      · exact hs8.blk n B b cap (two_blk hl g5 g6) hb
      · exact hs8.vir n B (two_blk hl g5 g6) hb
      · exact hs8.inj n n' B B' b c c' (two_blk hl g5 g6) (two_blk hl' g5 g6) hb hb'
    refine (catch_pan (G := G) hD hs9).mono ?_
    rintro e2 u2 w4 ⟨rfl, rfl, Φ6, β6, a6, l7, hs10⟩
    obtain ⟨_, m3, _, _, _⟩ := (hs10.env 1000000 True _ rfl).1 trivial
    obtain ⟨_, m4, _, _, _⟩ := (hs10.env 1000001 True _ rfl).1 trivial
    obtain ⟨bb, kk, _, n1, _, _, n2⟩ := (hs8.env 4 True _ g1).1 trivial
    rw [m1] at n1
    obtain ⟨rfl, rfl⟩ := Prod.mk.inj (Option.some.inj n1)
    obtain ⟨bb, kk, _, n3, _, _, n4⟩ := (hs8.env 5 True _ g2).1 trivial
    rw [m2] at n3
    obtain ⟨rfl, rfl⟩ := Prod.mk.inj (Option.some.inj n3)
    have hs11 : Sat G Φ6 β6 (St.mk 0 [(4, (True, .addr 4 0 0)), (5, (True, .addr 5 0 0))] [(4, ⟨3, 1, [[.int .i64 0]]⟩), (5, ⟨57, 2, [[.sl (p'.map encJ), .int .i64 x]]⟩)]) { tmps := a3.tmps, defers := [] } w4 := by
      refine ⟨hs10.kept, hs10.fits, hs10.old, Nat.zero_le _, hD.symm, fun t qq vv hl => ?_, hs10.blk, hs10.vir, hs10.inj⟩
      have hl : lk [(4, (True, AV.addr 4 0 0)), (5, (True, .addr 5 0 0))] t = some (qq, vv) := hl
      simp only [lk_cons] at hl
      split at hl
      · rename_i et; subst et
        simp only [Option.some.injEq, Prod.mk.injEq] at hl
        obtain ⟨rfl, rfl⟩ := hl
        exact ⟨fun _ => ⟨b4, k4, _, m3, rfl, rfl, by rw [n2]; simp⟩, fun hn => (hn trivial).elim⟩
      split at hl
      · rename_i et; subst et
        simp only [Option.some.injEq, Prod.mk.injEq] at hl
        obtain ⟨rfl, rfl⟩ := hl
        exact ⟨fun _ => ⟨b5, k5, _, m4, rfl, rfl, by rw [n4]; simp⟩, fun hn => (hn trivial).elim⟩
      · simp [lk] at hl
    obtain ⟨v2, hv1, hv2⟩ := res2 TYok (fn := Try.f27) rfl hs11 rfl rfl rfl rfl rfl rfl rfl rfl rfl
    exact ⟨v2, hv1, hfin (hs10.lay (a' := a6) (D := []) rfl (hs10.dfr.trans hD)) (Frz.le_trans l5 (Frz.le_trans l6 l7)) v2 hv2⟩
end
end Go.Proofs.Ytppdbmobcfedcaa
end
section
set_option linter.unusedVariables false
set_option linter.unusedSimpArgs false
set_option linter.unusedSectionVars false
namespace Lf
open Go Go.RowKit
section
variable {P : Program} {G : Ghost} {A B : St} {Φ Φ' : Frz} {β : Own} {a : Act} {w : World} {T : TT}
/-- a slice that lies in a struct (not block m), as1 it reads when all stands still -/
def LendC (A : St) (m : Nat) (x y : Cell) : Prop :=
  x = y ∨ (∃ tt n b c C, lk A.env tt = some (True, .pin n b c (slcV b c)) ∧ lk A.blks n = some C ∧ n ≠ m ∧ x = .sla b C.rows.length c ∧ y = .sl C.rows) ∨ (x = .slnil ∧ y = .sl [])
def LendL (A : St) (m : Nat) : List Cell → List Cell → Prop
  | [], [] => True
  | x :: xs, y :: ys => LendC A m x y ∧ LendL A m xs ys
  | _, _ => False
theorem LendC.nil {m : Nat} : LendC A m .slnil (.sl []) := .inr (.inr ⟨rfl, rfl⟩)
theorem LendC.pin {m n b c len : Nat} {C : Blk} {rows : List (List Cell)} (tt : Nat) (h1 : lk A.env tt = some (True, .pin n b c (slcV b c))) (h2 : lk A.blks n = some C) (h3 : Nat.beq n m = false) (h4 : C.rows = rows) (h5 : rows.length = len) : LendC A m (.sla b len c) (.sl rows) := by
  subst h4 h5
  exact .inr (.inl ⟨tt, n, b, c, C, h1, h2, fun e => (by subst e; rw [Nat.beq_refl] at h3; cases h3), rfl, rfl⟩)
theorem LendL.nil {m : Nat} : LendL A m [] [] := trivial
theorem LendL.cons {m : Nat} {x y : Cell} {xs ys : List Cell} (h : LendC A m x y) (h' : LendL A m xs ys) : LendL A m (x :: xs) (y :: ys) := ⟨h, h'⟩
theorem LendL.get {m : Nat} : ∀ {xs ys : List Cell}, LendL A m xs ys → xs.length = ys.length ∧ ∀ (j : Nat) (y : Cell), ys[j]? = some y → ∃ x, xs[j]? = some x ∧ LendC A m x y
  | [], [], _ => ⟨rfl, fun j y h => by simp at h⟩
  | x :: xs, y :: ys, h => ⟨by simp [(LendL.get h.2).1], fun j z hz => by
      cases j with
      | zero => simp at hz; subst hz; exact ⟨x, rfl, h.1⟩
      | succ j => simpa using (LendL.get h.2).2 j z (by simpa using hz)⟩
theorem LendC.rel {m : Nat} {x y : Cell} (hs : Sat G Φ β A a w) (h : LendC A m x y) {v : Value} (hr : Rel Φ v x) : Rel (frzAll Φ β A.blks w) v y := by
  rcases h with rfl | ⟨tt, n, b, c, C, h1, h2, _, rfl, rfl⟩ | ⟨rfl, rfl⟩
  · exact hr.mono hs.frz_le
  · obtain ⟨D, k1, k2, k3, k4⟩ := (hs.env tt True _ h1).1 trivial
    rw [h2] at k2
    obtain rfl := Option.some.inj k2
    have hv : AVRel Φ β A.blks v (.slc n) := ⟨C, h2, k3, .inr ⟨b, c, k1, rel_sla hr⟩⟩
    exact hs.toPV hv (q := .one (.sl C.rows)) (by simp [toPV, h2])
  · cases hr; exact .sl0
theorem LendL.rel {m : Nat} (hs : Sat G Φ β A a w) : ∀ {xs ys : List Cell} {vs : List Value}, LendL A m xs ys → RelL Φ vs xs → RelL (frzAll Φ β A.blks w) vs ys
  | [], [], [], _, _ => trivial
  | x :: xs, y :: ys, v :: vs, h, hr => ⟨h.1.rel hs hr.1, LendL.rel hs h.2 hr.2⟩
def Cell.blur (c : Cell) : Cell := bif c.flat then c else .unk
def PV.blur : PV → PV
  | .one c => .one c.blur
  | .agg cs => .agg (cs.map Cell.blur)
def AV.blur : AV → AV
  | .pv p => .pv p.blur
  | .tup l => .tup (l.map PV.blur)
  | _ => .top
theorem Rel.blur {v : Value} {c : Cell} (h : Rel Φ v c) : Rel Φ' v c.blur := by
  unfold Cell.blur
  cases hf : c.flat with
  | true => exact h.flat hf
  | false => exact .unk v h.one.1 h.one.2
theorem RelL.blur : ∀ {vs : List Value} {cs : List Cell}, RelL Φ vs cs → RelL Φ' vs (cs.map Cell.blur)
  | [], [], _ => trivial
  | _ :: _, _ :: _, h => ⟨h.1.blur, RelL.blur h.2⟩
theorem PRel.blur {v : Value} {p : PV} (h : PRel Φ v p) : PRel Φ' v p.blur := by
  cases p with
  | one c => exact Rel.blur h
  | agg cs => obtain ⟨arr, rfl, h⟩ := h; exact ⟨arr, rfl, h.blur⟩
theorem AVRel.blur {bl : List (Nat × Blk)} {v : Value} {r : AV} (h : AVRel Φ (fun _ => none) [] v r) : AVRel Φ' β bl v r.blur := by
  cases r with
  | pv p => exact PRel.blur h
  | tup l =>
    obtain ⟨arr, h1, h2, h3⟩ := h
    refine ⟨arr, h1, by simpa using h2, fun j q hq => ?_⟩
    rw [List.getElem?_map] at hq
    obtain ⟨q0, e1, rfl⟩ := Option.map_eq_some_iff.1 hq
    obtain ⟨u, h4, h5⟩ := h3 j q0 e1
    exact ⟨u, h4, h5.blur⟩
  | addr n i off => trivial
  | slc n => trivial
  | mp n => trivial
  | mpn n bb => trivial
  | itr d n => trivial
  | pin n b c f => trivial
  | top => trivial
/-- a call that looks at own slices which lie in a struct; what it gives is told as1 far as1 it has no address -/
theorem Q_callS {n0 : Nat} {env : List (Nat × (Prop × AV))} {bl : List (Nat × Blk)} {p : Prop} {dst : Option Nat} {ty : TypeId} {pos : String} {after : Array Edge} {gd : Option (Nat × Bool)} {f : FuncId} {x : Operand} {xs : List Operand} {ats : Array TypeId} {ps : List PV} {row row' : List Cell} {r : AV} (r' : AV)
    (hc : ACalls P f (.agg row' :: ps) r) (hr : AV.blur r = r') (hx0 : Ev (St.mk n0 env bl) p x (.pv (.agg row))) (hc0 : LendL (St.mk n0 env bl) 1000000 row row') (hx : EvL (St.mk n0 env bl) p xs ps) : PureOp P G (St.mk n0 env bl) ⟨dst, .call ⟨.value (.func f), (x :: xs).toArray, ats⟩, ty, pos, after, gd⟩ p r' := fun Φ β a w hs hp => by
  subst hr
  unfold Oper.wp
  rw [call_run rfl hc.fn]
  refine Calls.mono (hc.calls (frzAll Φ β bl w) w _ hs.frz_fits ⟨by simp [evl_len hx], fun j q hq => ?_⟩) ?_
  · cases j with
    | zero =>
      simp at hq; subst hq
      obtain ⟨arr, e1, e2⟩ : PRel Φ (a.eval x) (.agg row) := hs.ev hx0 hp
      exact ⟨a.eval x, by simp, arr, e1, hc0.rel hs e2⟩
    | succ j =>
      obtain ⟨y, h1, h2⟩ := evl_args hs hp hx j q (by simpa using hq)
      exact ⟨a.eval y, by simp [h1], h2⟩
  · rintro e w' ⟨v, Φ', rfl, hv, hle, heq, hfit, hb⟩
    refine ⟨v, Φ, rfl, hv.blur, Φ.le_refl, fun _ _ => rfl, fun b c h => ?_, hb⟩
    obtain ⟨E, fz, hw⟩ := hs.fits b c h
    exact ⟨E, fz, by rw [hb.block b (Array.getElem?_eq_some_iff.1 hw).1]; exact hw⟩
/-- a block is kept, the own slices that lie in it stand still from here on, with all else -/
theorem Le.freezeS {m : Nat} {B : Blk} {row row' : List Cell} (hm : lk A.blks m = some B) (hB : B.rows = [row]) (hmo : B.ob = false) (hr : LendL A m row row') :
    Le A { A with env := frzX m A.blks A.env, blks := [(m, { B with rows := [row'] })] } := fun G Φ β a w hs => by
  obtain ⟨Φ', β', hle, hs', hβ, hΦ⟩ := freezeX_sat hm hs
  refine ⟨Φ', β', hle, hs'.kept, hs'.fits, hs'.old, hs'.siz, hs'.dfr, fun s q v h => ⟨fun hq => ?_, (hs'.env s q v h).2⟩, fun k D b' cap h1 h2 => ?_, fun k D h1 h2 => ?_, fun k k' D D' b' c1 c2 h1 h2 h3 h4 => ?_⟩
  · have h5 := (hs'.env s q v h).1 hq
    exact h5.turn (A := { A with blks := [(m, B)] }) (n := m) (B := B) (rows := [row']) (by show lk [(m, B)] m = _; rw [lk_cons, if_pos rfl]) hmo (by rw [hB]; rfl) |>.congr (fun k => by
      show lk ((m, { B with rows := [row'] }) :: [(m, B)]) k = lk [(m, { B with rows := [row'] })] k
      rw [lk_cons, lk_cons, lk_cons]; split <;> rfl)
  · rw [lk_cons] at h1
    split at h1
    · rename_i e; subst e
      obtain rfl := Option.some.inj h1
      obtain ⟨k1, k2, k3⟩ := hs'.blk m B b' cap (by show lk [(m, B)] m = _; rw [lk_cons, if_pos rfl]) h2
      obtain ⟨cur, g1, g2, g3, g4, g5, g6⟩ := k1.cells hmo
      obtain ⟨l1, l2⟩ := hr.get
      refine ⟨.inl ⟨hmo, cur, g1, by rw [hB] at g2; exact g2, g3, g4, fun r hr' => ?_, fun i j r x hi hj => ?_⟩, k2, k3⟩
      · simp at hr'; subst hr'
        rw [← l1]; exact g5 row (by rw [hB]; simp)
      · have hi0 : i = 0 := by
          cases i with
          | zero => rfl
          | succ i => simp at hi
        subst hi0
        simp at hi; subst hi
        obtain ⟨y, q1, q2⟩ := l2 j x hj
        obtain ⟨v, q3, q4⟩ := g6 0 j row y (by rw [hB]; rfl) q1
        refine ⟨v, q3, ?_⟩
        rcases q2 with rfl | ⟨tt, n, b, c, C, r1, r2, r3, rfl, rfl⟩ | ⟨rfl, rfl⟩
        · exact q4
        · obtain ⟨D, p1, p2, p3, p4⟩ := (hs.env tt True _ r1).1 trivial
          rw [r2] at p2
          obtain rfl := Option.some.inj p2
          exact hΦ v n C (.one (.sl C.rows)) r2 r3 ⟨C, r2, p3, .inr ⟨b, c, p1, rel_sla q4⟩⟩ (by simp [toPV, r2])
        · cases q4; exact .sl0
    · simp [lk] at h1
  · rw [lk_cons] at h1
    split at h1
    · rename_i e; subst e
      have := hs'.vir m B (by show lk [(m, B)] m = _; rw [lk_cons, if_pos rfl]) h2
      rw [hB] at this; cases this
    · simp [lk] at h1
  · rw [lk_cons] at h1 h2
    split at h1
    · rename_i e; split at h2
      · rename_i e'; rw [← e, ← e']
      · simp [lk] at h2
    · simp [lk] at h1
variable {c0 : PK} {pan : Bool} {ops : Array Oper} {fuel : Nat} {L : List Bool} {Q : St → Prop} {Ss : List St}
theorem RE.one {i : Nat} {o : Oper} (hr : Region.ready .any ops L.toArray = [i]) (ho : ops[i]? = some o) (h : RG P G ops [o] (RE P G c0 pan ops fuel (L.set i true) Q) A) : RE P G c0 pan ops (fuel + 1) L Q A := by
  unfold RE at *
  intro Φ β a w hs Φs hle Q' q1 q2 q3
  have hset : L.toArray.setIfInBounds i true = (L.set i true).toArray := by simp
  refine ⟨fun e => (by rw [hr] at e; cases e), fun j hj => ?_⟩
  rw [hr] at hj
  obtain rfl := List.mem_singleton.1 hj
  refine wpOp_of ho (h Φ β a w hs _ fun A1 Φ1 β1 a1 w1 c1 s1 l1 => ⟨fun b c hb => s1.fits b c (l1 b c (hle b c hb)), ?_⟩)
  rw [hset]
  exact c1 Φ1 β1 a1 w1 s1 Φs (Frz.le_trans hle l1) Q' (fun A4 Φ4 β4 a4 w4 g4 s4 l4 => q1 A4 Φ4 β4 a4 w4 g4 s4 (Frz.le_trans l1 l4)) (fun hb e a2 w2 hp => q2 hb e a2 w2 (hp.mono l1)) q3
theorem RE.done (hr : Region.ready .any ops L.toArray = []) (h : Q A) : RE P G c0 pan ops 0 L Q A := by
  unfold RE
  intro Φ β a w hs Φs hle Q' q1 q2 q3
  exact ⟨hr, q1 A Φ β a w h hs Φ.le_refl⟩
theorem RE.weaken (hl : Le A B) (h : RE P G c0 pan ops fuel L Q B) : RE P G c0 pan ops fuel L Q A := by
  unfold RE at *
  intro Φ β a w hs Φs hle Q' q1 q2 q3
  obtain ⟨Φ1, β1, l1, s1⟩ := hl G Φ β a w hs
  exact h Φ1 β1 a w s1 Φs (Frz.le_trans hle l1) Q' (fun A4 Φ4 β4 a4 w4 g4 s4 l4 => q1 A4 Φ4 β4 a4 w4 g4 s4 (Frz.le_trans l1 l4)) (fun hb e a2 w2 hp => q2 hb e a2 w2 (hp.mono l1)) q3
theorem RE.place {n0 t n : Nat} {env : List (Nat × (Prop × AV))} {bl : List (Nat × Blk)} {C : Blk} (ht : lk env t = some (True, .slc n)) (hl : lk bl n = some C) (h1 : ∀ b c, RE P G c0 pan ops fuel L Q (St.mk n0 ((t, (True, .pin n b c (slcV b c))) :: env) bl)) (h2 : C.rows = [] → RE P G c0 pan ops fuel L Q (St.mk n0 ((t, (True, .pv (.one .slnil))) :: env) bl)) :
    RE P G c0 pan ops fuel L Q (St.mk n0 env bl) := by
  unfold RE at *
  intro Φ β a w hs
  rcases hs.place ht hl with ⟨b, c, hs'⟩ | ⟨h, hs'⟩
  · exact h1 b c Φ β a w hs'
  · exact h2 h Φ β a w hs'
def memoOkK (ops : Array Oper) (nodes : List MNode) : Bool :=
  (List.range nodes.length).all (fun k => match nodes[k]? with
    | some e => (e.2.isEmpty && k + 1 == nodes.length) || (Region.ready .any ops e.1.toArray == e.2.map (·.1) && e.2.all (fun x => (e.1.getD x.1 true == false) && (match nodes[x.2]? with | some e' => e'.1 == e.1.set x.1 true | none => false)) && !e.2.isEmpty)
    | none => true)
theorem RE0.memoK {Sr : List St} {S0 Sn : St} {L0 Ln : List Bool} {es0 : List (Nat × Nat)} {nr : List MNode} {fn : Nat} (nodes : List MNode) (Ss : List St) (hk : memoOkK ops nodes = true) (hp : ops[1000000]? = none) (hn : nodes = (L0, es0) :: nr) (hL : L = L0) (hS : Ss = S0 :: Sr) (hlen : Nat.beq Ss.length nodes.length = true) (hf : Nat.beq (L0.count false) fuel = true)
    (hLn : nodes[nodes.length - 1]? = some (Ln, [])) (hfn : Nat.beq (Ln.count false) fn = true) (hl : Le A S0) (h : MNP P G c0 ops Ss 1000000 nodes Ss) (he : Ss[nodes.length - 1]? = some Sn) (hK : RE P G c0 false ops fn Ln Q Sn) : RE0 P G c0 false ops fuel L Q A := by
  have at' : ∀ (k : Nat) (L : List Bool) (es : List (Nat × Nat)), nodes[k]? = some (L, es) → (es = [] ∧ k + 1 = nodes.length) ∨ (Region.ready .any ops L.toArray = es.map (·.1) ∧ (∀ i t, (i, t) ∈ es → L.getD i true = false ∧ ∃ es', nodes[t]? = some (L.set i true, es')) ∧ es ≠ []) := fun k L es hn => by
    have hkl := (List.getElem?_eq_some_iff.1 hn).1
    have h2 := List.all_eq_true.1 hk k (List.mem_range.2 hkl)
    rw [hn] at h2
    simp only [Bool.and_eq_true, beq_iff_eq, Bool.or_eq_true, Bool.not_eq_true', List.all_eq_true] at h2
    rcases h2 with ⟨g1, g2⟩ | ⟨⟨a1, a2⟩, a3⟩
    · exact .inl ⟨by simpa using g1, g2⟩
    · refine .inr ⟨a1, fun i t hm => ?_, fun e => by subst e; simp at a3⟩
      obtain ⟨b1, b2⟩ := a2 (i, t) hm
      refine ⟨b1, ?_⟩
      cases hn' : nodes[t]? with
      | none => rw [hn'] at b2; simp at b2
      | some e' =>
        rw [hn'] at b2
        simp only [beq_iff_eq] at b2
        exact ⟨e'.2, by rw [← b2]⟩
  have key : ∀ (fuel k : Nat) (L : List Bool) (es : List (Nat × Nat)) (S : St), nodes[k]? = some (L, es) → Ss[k]? = some S → L.count false = fuel → RE P G c0 false ops fuel L Q S := by
    intro fuel
    induction fuel with
    | zero =>
      intro k L es S hn hS hc
      rcases at' k L es hn with ⟨rfl, g⟩ | ⟨h1, h2, h3⟩
      · rw [show nodes.length - 1 = k by omega] at hLn he
        rw [hn] at hLn; rw [hS] at he
        obtain ⟨rfl, _⟩ := Prod.mk.inj (Option.some.inj hLn)
        obtain rfl := Option.some.inj he
        rw [Nat.eq_of_beq_eq_true hfn] at hc
        rw [← hc]; exact hK
      · cases es with
        | nil => exact absurd rfl h3
        | cons x es =>
          have := count_setM (h2 x.1 x.2 (by simp)).1
          omega
    | succ fuel ih =>
      intro k L es S hn hS hc
      rcases at' k L es hn with ⟨rfl, g⟩ | ⟨h1, h2, h3⟩
      · rw [show nodes.length - 1 = k by omega] at hLn he
        rw [hn] at hLn; rw [hS] at he
        obtain ⟨rfl, _⟩ := Prod.mk.inj (Option.some.inj hLn)
        obtain rfl := Option.some.inj he
        rw [Nat.eq_of_beq_eq_true hfn] at hc
        rw [← hc]; exact hK
      · have hg := h.get k L es S hn hS
        unfold RE at *
        intro Φ β a w hs Φs hle Q' q1 q2 q3
        refine ⟨fun e => ?_, fun j hj => ?_⟩
        · rw [h1] at e
          cases es with
          | nil => exact absurd rfl h3
          | cons x es => simp at e
        · rw [h1] at hj
          obtain ⟨⟨j', t⟩, hm, rfl⟩ := List.mem_map.1 hj
          obtain ⟨b1, es', b3⟩ := h2 j' t hm
          have hcs := count_setM b1
          rcases hg.get j' t hm with ⟨hpj, o, ho, hgd, hpo⟩ | ⟨hne, o, S', ho, hS', hr⟩
          · rw [hpj, hp] at ho; cases ho
          · have hset : L.toArray.setIfInBounds j' true = (L.set j' true).toArray := by simp
            refine wpOp_of ho (hr Φ β a w hs _ fun A1 Φ1 β1 a1 w1 c1 s1 l1 => ?_)
            obtain ⟨Φ3, β3, l3, s3⟩ := c1 G Φ1 β1 a1 w1 s1
            refine ⟨fun b c hb => s1.fits b c (l1 b c (hle b c hb)), ?_⟩
            rw [hset]
            exact ih t (L.set j' true) es' S' b3 hS' (by omega) Φ3 β3 a1 w1 s3 Φs (Frz.le_trans hle (Frz.le_trans l1 l3)) Q' (fun A4 Φ4 β4 a4 w4 g4 s4 l4 => q1 A4 Φ4 β4 a4 w4 g4 s4 (Frz.le_trans (Frz.le_trans l1 l3) l4))
              (fun hb e a2 w2 hp2 => q2 hb e a2 w2 (hp2.mono (Frz.le_trans l1 l3))) q3
  subst hL
  have hre := key fuel 0 L es0 S0 (by rw [hn]; rfl) (by rw [hS]; rfl) (Nat.eq_of_beq_eq_true hf)
  exact RE0.rest (RE.weaken hl hre)
section
variable {n : Nat} {env : Env} {bl : List (Nat × Blk)} {dst : Option Nat} {ty : TypeId} {pos : String} {after : Array Edge} {gd : Option (Nat × Bool)}
theorem Stab.fieldA {s f fo ft n1 i off : Nat} {x : Operand} {ti tj : TI} {fs : List (Nat × Nat)} (hT : TOK P T) (hx : Ev (St.mk n env bl) True x (.addr n1 i off)) (ht : T s = some ti) (hk : ti.kind = .struct fs) (hf : fs[f]? = some (fo, ft)) (hj : T ft = some tj) (hz : Nat.blt 0 tj.sz = true) :
    StabOp P G (St.mk n env bl) ⟨dst, .fieldAddr s x f, ty, pos, after, gd⟩ (.addr n1 i (off + fo)) := by
  unfold StabOp
  intro Φ β a w hs
  obtain ⟨b, cap, B, h1, h2, hob, h3⟩ := hs.ev hx trivial
  refine ⟨.pointer (some ⟨b, i * B.sz + off + fo, none⟩), fun w' _ => exec_val (m := Instr.fieldAt s (a.eval x) f) (by simp only [execOp]) (by rw [h3]; exact run_fieldAt hT ht hk hf hj (Nat.ne_of_gt (blt_lt hz)) _ _ w'), b, cap, B, h1, h2, hob, ?_⟩
  rw [Nat.add_assoc]
end
section
variable {ops : Array Oper} {rest : List Oper} {Q : St → Prop} {n0 : Nat} {env : List (Nat × (Prop × AV))} {bl : List (Nat × Blk)} {ty : TypeId} {pos : String} {after : Array Edge}
/-- an own slice made longer by data, the slots written out -/
theorem S_appendF (hT : TOK P T) {t e n d : Nat} {x y : Operand} {ti te : TI} {B : Blk} {rows2 : List (List Cell)} {E2 : Env} (hx : Ev (St.mk n0 env bl) True x (.slc n)) (hy : Ev (St.mk n0 env bl) True y (.pv (.one (.sl rows2)))) (ht : T t = some ti) (hk : ti.kind = .slice e) (he : T e = some te) (hl : lk bl n = some B)
    (hzl : te.zero.cells.length = te.sz) (hz : Nat.blt 0 te.sz = true) (hE : B.E = e) (hsz : B.sz = te.sz) (hrows : ∀ r ∈ rows2, r.length = te.sz)
    (hb : (B.rows.length + rows2.length) * te.bytes ≤ 140737488355328 ∧ B.rows.length + rows2.length ≤ 140737488355328) (hn : Nat.blt d n0 = true) (hF : FG d n env E2)
    (h : RG P G ops rest Q (St.mk n0 ((d, (True, .slc d)) :: E2) ((d, ⟨e, te.sz, B.rows ++ rows2⟩) :: (n, deadBlk) :: bl))) : RG P G ops (⟨some d, .call ⟨.builtin .append, #[x, y], #[t, t]⟩, ty, pos, after, none⟩ :: rest) Q (St.mk n0 env bl) := by
  unfold FG at hF
  subst hF
  exact S_appendd hT hx hy ht hk he hl hzl hz hE hsz hrows hb hn h
end
section
variable {ops : Array Oper} {fuel : Nat} {L : List Bool} {Q : St → Prop} {c0 : PK} {pan : Bool} {R : Exit → St → Prop}
theorem RE0.id (h : RE0 P G c0 pan ops fuel L Q A) : RE0 P G c0 pan ops fuel L Q A := h
theorem RE.id (h : RE P G c0 pan ops fuel L Q A) : RE P G c0 pan ops fuel L Q A := h
theorem W.idD {n : Nat} {o : Array Oper} (h : W P G (.region n o true) R A) : W P G (.region n o true) R A := h
end
end
end Lf
end
section
set_option linter.unusedVariables false
set_option linter.unusedSimpArgs false
set_option maxHeartbeats 8000000
set_option linter.unusedSectionVars false
namespace Go.Proofs.Ytppdbmobcfedcaa
open Lf Go
attribute [local irreducible] PureOp EffOp Ev RG W Then InBlock Lf.Fin nth App InitE Pick SubE EvL EvD EvP EvR ResL Lf.Lex SubR SubBR RA RAll EvC FinO FinM ResM
attribute [local irreducible] WP PanOp PanX LendL LendC
section
variable {lets : List Let} {us : List Int}
theorem le_self {A B : St} (h : Le A B) : Le A B := h
/-- a definition, looked at with those before it -/
theorem scoped_walk (hl : lets.length ≤ 20) (U : Nat → Int) (pc : Nat → Cell) (er : Nat → Int) (us : List Int) (hu : us.length = lets.length) (hus : ∀ k, k < lets.length → nth us k = if er k = 0 then U k else -1)
    (hc : ∀ k, k < lets.length → ACalls Try.prog 27 [scV (lets.take k) (us.take k), aE (nth lets k).body] (.tup [cI (U k), .agg [pc k, .int .i64 (er k)]])) :
    ACalls Try.prog 26 [slL lets] (.pv (scV lets us)) := by
  refine ACalls.of_M TYok (qs := [scV lets us]) [.cell 2 60] 38 Try.func26 (by kernel_rfl) rfl rfl rfl fun G => W.fin ?_
  refine W.initA (hw := ?_)
  repeat' (first | ((first | apply U_); (first | exact QX.B TYok | exact QX.Len TYok | exact QX.Idx TYok | exact QX.Ext TYok); exact rfl) | refine SX.Alloc TYok (h := ?_) | refine SC ?_)
  apply W.loopP (σ := Nat × Nat × Nat × Nat × Nat) 38 [2, 3, 8, 9] (fun (k, b, c, b2, c2) => k ≤ lets.length) (fun (k, b, c, b2, c2) => (match k with | 0 => [(10, vI 0)] | k + 1 => [(10, vI ((k + 1 : Nat) : Int)), (28, (True, .pin 28 b c (slcV b c))), (33, (True, .pin 33 b2 c2 (slcV b2 c2)))])) (fun (k, b, c, b2, c2) => (match k with | 0 => [(2, ⟨60, 2, [[.slnil, .slnil]]⟩), (3, ⟨60, 2, [[.slnil, .slnil]]⟩)] | k + 1 => [(2, ⟨60, 2, [[.slnil, .slnil]]⟩), (3, ⟨60, 2, [[.sla b ((lets.take (k + 1)).map encL).length c, .sla b2 ((us.take (k + 1)).map encJ).length c2]]⟩), (28, ⟨44, 6, (lets.take (k + 1)).map encL⟩), (33, ⟨3, 1, (us.take (k + 1)).map encJ⟩)])) (fun (k, b, c, b2, c2) => lets.length - k) ((0, 0, 0, 0, 0))
  case hp => repeat (first | exact Pick.nil | apply Pick.cons rfl)
  case h0 =>
    refine ⟨by simp, ?_⟩
    exact Le.auto
  case round =>
    rintro ⟨_ | k, b, c, b2, c2⟩ hk1
    · dsimp only
      apply W.norm (by repeat (first | exact App.nil | apply App.cons))
      by_cases hk : 0 < lets.length
      · have c1 := hc 0 hk
        have hu0 := hus 0 hk
        have e1 : (lets.take (0 + 1)).map encL = [encL (nth lets 0)] := by
          obtain ⟨x, r, rfl⟩ : ∃ x r, lets = x :: r := by cases lets with | nil => simp at hk | cons x r => exact ⟨x, r, rfl⟩
          rw [nth_cons0]; rfl
        have e2 : (us.take (0 + 1)).map encJ = [[.int .i64 (nth us 0)]] := by
          obtain ⟨x, r, rfl⟩ : ∃ x r, us = x :: r := by cases us with | nil => simp at hu; omega | cons x r => exact ⟨x, r, rfl⟩
          rw [nth_cons0]; rfl
        generalize nth us 0 = u0 at *
        generalize er 0 = er0 at *
        generalize pc 0 = pc0 at *
        generalize U 0 = U0 at *
        have hu1 : er0 = 0 → U0 = u0 := fun h => by rw [if_pos h] at hu0; exact hu0.symm
        have hu2 : ¬ er0 = 0 → u0 = -1 := fun h => by rw [if_neg h] at hu0; exact hu0
        clear hu0
        by_cases he : er0 = 0
        · have hq := hu1 he
          clear hu1 hu2
          subst hq he
          repeat' (first | (refine W.weaken (Le.freeze1 (m := 5) rfl) ?_) | (refine RG.weaken (Le.nilOwn (t := 25) (n := 28) (E := 44) (sz := 6) rfl) ?_) | (refine RG.weaken (Le.nilOwn (t := 30) (n := 33) (E := 3) (sz := 1) rfl) ?_) | (refine W.idD ?_; refine W.drawH (id := 8) 14 [false, false, false, false, false, false, false, false, false, false, false, false, false, false] mixed rfl rfl ?_) | (refine RE0.id ?_; first | (apply RE0.take (L := [false, false, false, false, false, false, false, false, false, false, false, false, false, false]) (fuel := 13) 0 rfl rfl rfl rfl (by kernel_rfl) (by kernel_rfl) (by kernel_rfl)) | (apply RE0.take (L := [true, false, false, false, false, false, false, false, false, false, false, false, false, false]) (fuel := 12) 2 rfl rfl rfl rfl (by kernel_rfl) (by kernel_rfl) (by kernel_rfl)) | (apply RE0.take (L := [true, false, true, false, false, false, false, false, false, false, false, false, false, false]) (fuel := 11) 5 rfl rfl rfl rfl (by kernel_rfl) (by kernel_rfl) (by kernel_rfl)) | (apply RE0.take (L := [true, false, true, false, false, true, false, false, false, false, false, false, false, false]) (fuel := 10) 7 rfl rfl rfl rfl (by kernel_rfl) (by kernel_rfl) (by kernel_rfl)) | (refine RE0.memoK (L := [true, false, true, false, false, true, false, true, false, false, false, false, false, false]) (fn := 3) [([true, false, true, false, false, true, false, true, false, false, false, false, false, false], [(1, 1), (3, 2), (6, 3), (8, 4)]), ([true, true, true, false, false, true, false, true, false, false, false, false, false, false], [(3, 5), (6, 6), (8, 7)]), ([true, false, true, true, false, true, false, true, false, false, false, false, false, false], [(1, 5), (6, 8), (8, 9)]), ([true, false, true, false, false, true, true, true, false, false, false, false, false, false], [(1, 6), (3, 8), (8, 10)]), ([true, false, true, false, false, true, false, true, true, false, false, false, false, false], [(1, 7), (3, 9), (6, 10)]), ([true, true, true, true, false, true, false, true, false, false, false, false, false, false], [(4, 11), (6, 12), (8, 13)]), ([true, true, true, false, false, true, true, true, false, false, false, false, false, false], [(3, 12), (8, 14)]), ([true, true, true, false, false, true, false, true, true, false, false, false, false, false], [(3, 13), (6, 14)]), ([true, false, true, true, false, true, true, true, false, false, false, false, false, false], [(1, 12), (8, 15)]), ([true, false, true, true, false, true, false, true, true, false, false, false, false, false], [(1, 13), (6, 15)]), ([true, false, true, false, false, true, true, true, true, false, false, false, false, false], [(1, 14), (3, 15)]), ([true, true, true, true, true, true, false, true, false, false, false, false, false, false], [(6, 16), (8, 17)]), ([true, true, true, true, false, true, true, true, false, false, false, false, false, false], [(4, 16), (8, 18)]), ([true, true, true, true, false, true, false, true, true, false, false, false, false, false], [(4, 17), (6, 18)]), ([true, true, true, false, false, true, true, true, true, false, false, false, false, false], [(3, 18)]), ([true, false, true, true, false, true, true, true, true, false, false, false, false, false], [(1, 18)]), ([true, true, true, true, true, true, true, true, false, false, false, false, false, false], [(8, 19), (10, 20)]), ([true, true, true, true, true, true, false, true, true, false, false, false, false, false], [(6, 19)]), ([true, true, true, true, false, true, true, true, true, false, false, false, false, false], [(4, 19)]), ([true, true, true, true, true, true, true, true, true, false, false, false, false, false], [(9, 21), (10, 22)]), ([true, true, true, true, true, true, true, true, false, false, true, false, false, false], [(8, 22)]), ([true, true, true, true, true, true, true, true, true, true, false, false, false, false], [(10, 23)]), ([true, true, true, true, true, true, true, true, true, false, true, false, false, false], [(9, 23)]), ([true, true, true, true, true, true, true, true, true, true, true, false, false, false], [])] [?_, ?_, ?_, ?_, ?_, ?_, ?_, ?_, ?_, ?_, ?_, ?_, ?_, ?_, ?_, ?_, ?_, ?_, ?_, ?_, ?_, ?_, ?_, ?_] (by kernel_rfl) rfl rfl rfl rfl rfl rfl rfl rfl ?_ ?_ rfl ?_; rotate_left 24)) | (refine RE.id ?_; first | (refine RE.place (t := 28) rfl rfl (fun qb qc => ?_) (fun hz => absurd hz (by simp))) | (refine RE.place (t := 33) rfl rfl (fun qb2 qc2 => ?_) (fun hz => absurd hz (by simp))) | (refine RE.one (L := [true, true, true, true, true, true, true, true, true, true, true, false, false, false]) (i := 11) (fuel := 2) (by kernel_rfl) rfl ?_) | (refine RE.one (L := [true, true, true, true, true, true, true, true, true, true, true, true, false, false]) (i := 12) (fuel := 1) (by kernel_rfl) rfl ?_) | (refine RE.one (L := [true, true, true, true, true, true, true, true, true, true, true, true, true, false]) (i := 13) (fuel := 0) (by kernel_rfl) rfl ?_) | (refine RE.done (L := [true, true, true, true, true, true, true, true, true, true, true, true, true, true]) (by kernel_rfl) ?_)) | (apply Stab.fieldA TYok; exact Ev.auto; exact rfl; exact rfl; exact rfl; exact rfl; exact rfl) | (apply Stab.move; exact Ev.auto) | (apply Stab.loadpa TYok; exact Ev.auto; exact rfl; exact rfl; exact rfl) | exact MNP.nil | (refine MNP.cons ?_ ?_) | exact MGP.nil | (refine MGP.cons rfl rfl rfl ?_ ?_) | exact Le.refl | (refine le_self ?_; refine Le.st rfl (by repeat (first | exact SubEK.nil | refine SubEK.skip rfl ?_ | refine SubEK.one rfl (by first | exact trivial | exact rfl) ?_)) (by repeat (first | exact SubBK.nil | refine SubBK.skip rfl ?_ | refine SubBK.one rfl ?_))) | (refine W.purgeR [(5, [2, 3, 5, 8, 9, 10, 28, 33]), (6, [2, 3, 5, 6, 7, 8, 9, 10, 28, 33])] rfl (by repeat (first | exact PN.nil | apply PN.po rfl | (apply PN.pa; exact rfl; (repeat (first | (apply NR.cons; exact rfl) | exact NR.nil rfl))) | apply PN.a rfl | apply PN.s rfl | apply PN.u rfl | apply PN.m rfl | apply PN.k rfl | apply PN.i rfl | apply PN.skip)) (by repeat (first | exact PB.nil | (apply PB.one; exact rfl; (focus (first | (dsimp only; done) | (dsimp only; exact rfl) | exact rfl)); (focus (first | (dsimp only; done) | (dsimp only; exact rfl) | exact rfl)); exact rfl; (repeat (first | (apply NR.cons; exact rfl) | exact NR.nil rfl)))  | apply PB.cons rfl)) ?_) | ((first | apply U_); (first | (apply Q_callS (.tup [cI U0, .agg [pc0.blur, .int .i64 0]]) c1; exact rfl; exact Ev.auto; exact LendL.cons LendC.nil (LendL.cons LendC.nil LendL.nil); exact EvL.auto) | (apply Q_litD TYok; apply EvR.cons Ev.auto; (repeat (first | exact EvR.nil | apply EvR.cons Ev.auto)); exact rfl; exact rfl; exact rfl; exact rfl; exact rfl; exact rfl) | exact QX.B TYok | exact QX.Len TYok | exact QX.Idx TYok | exact QX.Ext TYok); exact rfl) | refine SX.Alloc TYok (h := ?_) | refine SX.Store TYok (h := ?_) | (apply S_appendF TYok; exact Ev.auto; exact Ev.auto; exact rfl; exact rfl; exact rfl; exact rfl; exact rfl; exact rfl; exact rfl; exact rfl; (intro r hr; first | (obtain ⟨_, _, rfl⟩ := List.mem_map.1 hr; rfl) | (obtain rfl := List.mem_singleton.1 hr; rfl)); (constructor <;> simp <;> omega); exact rfl; (repeat (first | exact FG.nil | (apply FG.keep; exact rfl; exact rfl) | (apply FG.gone; exact rfl)))) | (apply S_storeO TYok; exact Ev.auto; exact rfl; exact rfl; exact rfl; exact rfl; exact rfl; exact rfl; exact rfl; (first | (focus (simp; done)) | exact Nat.le_of_ble_eq_true rfl)) | refine SC ?_ | (refine W.condA (ht := fun hb => ?_) (hf := fun hb => ?_) <;> (try simp at hb) <;> (try (exfalso; omega))))
          all_goals first
            | (exfalso; omega)
            | (exfalso; rw [hb] at hk; simp at hk; done)
            | (refine ⟨(0 + 1, qb, qc, qb2, qc2), hk, ?_, by (first | omega | (simp only; omega))⟩; dsimp only; simp only [e1, e2]; exact Le.auto)
            | trace_state
        · have hq := hu2 he
          clear hu1 hu2
          subst hq
          repeat' (first | (refine W.weaken (Le.freeze1 (m := 5) rfl) ?_) | (refine RG.weaken (Le.nilOwn (t := 25) (n := 28) (E := 44) (sz := 6) rfl) ?_) | (refine RG.weaken (Le.nilOwn (t := 30) (n := 33) (E := 3) (sz := 1) rfl) ?_) | (refine W.idD ?_; refine W.drawH (id := 8) 14 [false, false, false, false, false, false, false, false, false, false, false, false, false, false] mixed rfl rfl ?_) | (refine RE0.id ?_; first | (apply RE0.take (L := [false, false, false, false, false, false, false, false, false, false, false, false, false, false]) (fuel := 13) 0 rfl rfl rfl rfl (by kernel_rfl) (by kernel_rfl) (by kernel_rfl)) | (apply RE0.take (L := [true, false, false, false, false, false, false, false, false, false, false, false, false, false]) (fuel := 12) 2 rfl rfl rfl rfl (by kernel_rfl) (by kernel_rfl) (by kernel_rfl)) | (apply RE0.take (L := [true, false, true, false, false, false, false, false, false, false, false, false, false, false]) (fuel := 11) 5 rfl rfl rfl rfl (by kernel_rfl) (by kernel_rfl) (by kernel_rfl)) | (apply RE0.take (L := [true, false, true, false, false, true, false, false, false, false, false, false, false, false]) (fuel := 10) 7 rfl rfl rfl rfl (by kernel_rfl) (by kernel_rfl) (by kernel_rfl)) | (refine RE0.memoK (L := [true, false, true, false, false, true, false, true, false, false, false, false, false, false]) (fn := 3) [([true, false, true, false, false, true, false, true, false, false, false, false, false, false], [(1, 1), (3, 2), (6, 3), (8, 4)]), ([true, true, true, false, false, true, false, true, false, false, false, false, false, false], [(3, 5), (6, 6), (8, 7)]), ([true, false, true, true, false, true, false, true, false, false, false, false, false, false], [(1, 5), (6, 8), (8, 9)]), ([true, false, true, false, false, true, true, true, false, false, false, false, false, false], [(1, 6), (3, 8), (8, 10)]), ([true, false, true, false, false, true, false, true, true, false, false, false, false, false], [(1, 7), (3, 9), (6, 10)]), ([true, true, true, true, false, true, false, true, false, false, false, false, false, false], [(4, 11), (6, 12), (8, 13)]), ([true, true, true, false, false, true, true, true, false, false, false, false, false, false], [(3, 12), (8, 14)]), ([true, true, true, false, false, true, false, true, true, false, false, false, false, false], [(3, 13), (6, 14)]), ([true, false, true, true, false, true, true, true, false, false, false, false, false, false], [(1, 12), (8, 15)]), ([true, false, true, true, false, true, false, true, true, false, false, false, false, false], [(1, 13), (6, 15)]), ([true, false, true, false, false, true, true, true, true, false, false, false, false, false], [(1, 14), (3, 15)]), ([true, true, true, true, true, true, false, true, false, false, false, false, false, false], [(6, 16), (8, 17)]), ([true, true, true, true, false, true, true, true, false, false, false, false, false, false], [(4, 16), (8, 18)]), ([true, true, true, true, false, true, false, true, true, false, false, false, false, false], [(4, 17), (6, 18)]), ([true, true, true, false, false, true, true, true, true, false, false, false, false, false], [(3, 18)]), ([true, false, true, true, false, true, true, true, true, false, false, false, false, false], [(1, 18)]), ([true, true, true, true, true, true, true, true, false, false, false, false, false, false], [(8, 19), (10, 20)]), ([true, true, true, true, true, true, false, true, true, false, false, false, false, false], [(6, 19)]), ([true, true, true, true, false, true, true, true, true, false, false, false, false, false], [(4, 19)]), ([true, true, true, true, true, true, true, true, true, false, false, false, false, false], [(9, 21), (10, 22)]), ([true, true, true, true, true, true, true, true, false, false, true, false, false, false], [(8, 22)]), ([true, true, true, true, true, true, true, true, true, true, false, false, false, false], [(10, 23)]), ([true, true, true, true, true, true, true, true, true, false, true, false, false, false], [(9, 23)]), ([true, true, true, true, true, true, true, true, true, true, true, false, false, false], [])] [?_, ?_, ?_, ?_, ?_, ?_, ?_, ?_, ?_, ?_, ?_, ?_, ?_, ?_, ?_, ?_, ?_, ?_, ?_, ?_, ?_, ?_, ?_, ?_] (by kernel_rfl) rfl rfl rfl rfl rfl rfl rfl rfl ?_ ?_ rfl ?_; rotate_left 24)) | (refine RE.id ?_; first | (refine RE.place (t := 28) rfl rfl (fun qb qc => ?_) (fun hz => absurd hz (by simp))) | (refine RE.place (t := 33) rfl rfl (fun qb2 qc2 => ?_) (fun hz => absurd hz (by simp))) | (refine RE.one (L := [true, true, true, true, true, true, true, true, true, true, true, false, false, false]) (i := 11) (fuel := 2) (by kernel_rfl) rfl ?_) | (refine RE.one (L := [true, true, true, true, true, true, true, true, true, true, true, true, false, false]) (i := 12) (fuel := 1) (by kernel_rfl) rfl ?_) | (refine RE.one (L := [true, true, true, true, true, true, true, true, true, true, true, true, true, false]) (i := 13) (fuel := 0) (by kernel_rfl) rfl ?_) | (refine RE.done (L := [true, true, true, true, true, true, true, true, true, true, true, true, true, true]) (by kernel_rfl) ?_)) | (apply Stab.fieldA TYok; exact Ev.auto; exact rfl; exact rfl; exact rfl; exact rfl; exact rfl) | (apply Stab.move; exact Ev.auto) | (apply Stab.loadpa TYok; exact Ev.auto; exact rfl; exact rfl; exact rfl) | exact MNP.nil | (refine MNP.cons ?_ ?_) | exact MGP.nil | (refine MGP.cons rfl rfl rfl ?_ ?_) | exact Le.refl | (refine le_self ?_; refine Le.st rfl (by repeat (first | exact SubEK.nil | refine SubEK.skip rfl ?_ | refine SubEK.one rfl (by first | exact trivial | exact rfl) ?_)) (by repeat (first | exact SubBK.nil | refine SubBK.skip rfl ?_ | refine SubBK.one rfl ?_))) | (refine W.purgeR [(5, [2, 3, 5, 8, 9, 10, 28, 33]), (6, [2, 3, 5, 6, 7, 8, 9, 10, 28, 33])] rfl (by repeat (first | exact PN.nil | apply PN.po rfl | (apply PN.pa; exact rfl; (repeat (first | (apply NR.cons; exact rfl) | exact NR.nil rfl))) | apply PN.a rfl | apply PN.s rfl | apply PN.u rfl | apply PN.m rfl | apply PN.k rfl | apply PN.i rfl | apply PN.skip)) (by repeat (first | exact PB.nil | (apply PB.one; exact rfl; (focus (first | (dsimp only; done) | (dsimp only; exact rfl) | exact rfl)); (focus (first | (dsimp only; done) | (dsimp only; exact rfl) | exact rfl)); exact rfl; (repeat (first | (apply NR.cons; exact rfl) | exact NR.nil rfl)))  | apply PB.cons rfl)) ?_) | ((first | apply U_); (first | (apply Q_callS (.tup [cI U0, .agg [pc0.blur, .int .i64 er0]]) c1; exact rfl; exact Ev.auto; exact LendL.cons LendC.nil (LendL.cons LendC.nil LendL.nil); exact EvL.auto) | (apply Q_litD TYok; apply EvR.cons Ev.auto; (repeat (first | exact EvR.nil | apply EvR.cons Ev.auto)); exact rfl; exact rfl; exact rfl; exact rfl; exact rfl; exact rfl) | exact QX.B TYok | exact QX.Len TYok | exact QX.Idx TYok | exact QX.Ext TYok); exact rfl) | refine SX.Alloc TYok (h := ?_) | refine SX.Store TYok (h := ?_) | (apply S_appendF TYok; exact Ev.auto; exact Ev.auto; exact rfl; exact rfl; exact rfl; exact rfl; exact rfl; exact rfl; exact rfl; exact rfl; (intro r hr; first | (obtain ⟨_, _, rfl⟩ := List.mem_map.1 hr; rfl) | (obtain rfl := List.mem_singleton.1 hr; rfl)); (constructor <;> simp <;> omega); exact rfl; (repeat (first | exact FG.nil | (apply FG.keep; exact rfl; exact rfl) | (apply FG.gone; exact rfl)))) | (apply S_storeO TYok; exact Ev.auto; exact rfl; exact rfl; exact rfl; exact rfl; exact rfl; exact rfl; exact rfl; (first | (focus (simp; done)) | exact Nat.le_of_ble_eq_true rfl)) | refine SC ?_ | (refine W.condA (ht := fun hb => ?_) (hf := fun hb => ?_) <;> (try simp at hb) <;> (try (exfalso; omega))))
          all_goals first
            | (exfalso; omega)
            | (exfalso; rw [hb] at hk; simp at hk; done)
            | (refine ⟨(0 + 1, qb, qc, qb2, qc2), hk, ?_, by (first | omega | (simp only; omega))⟩; dsimp only; simp only [e1, e2]; exact Le.auto)
            | trace_state
      · have hl0 : lets = [] := List.length_eq_zero_iff.1 (by omega)
        subst hl0
        have hu0 : us = [] := List.length_eq_zero_iff.1 (by rw [hu]; rfl)
        subst hu0
        repeat' (first | ((first | apply U_); (first | exact QX.B TYok | exact QX.Len TYok | exact QX.Idx TYok | exact QX.Ext TYok); exact rfl) | refine SX.Alloc TYok (h := ?_) | refine SX.Store TYok (h := ?_) | refine SC ?_ | (refine W.condA (ht := fun hb => ?_) (hf := fun hb => ?_) <;> (try simp at hb) <;> (try (exfalso; omega))))
        all_goals first
          | (exfalso; omega)
          | (refine ⟨_, Le.refl, FinM.ret (ResM.cell rfl rfl rfl rfl ?_ ResM.nil)⟩
             show LSub [_, _] [_, _]
             exact ⟨.nil, .nil, trivial⟩)
          | trace_state
    · dsimp only
      apply W.norm (by repeat (first | exact App.nil | apply App.cons))
      have hk2 : k + 1 ≤ lets.length := hk1
      have hLL : ((lets.take (k + 1)).map encL).length = k + 1 := by simp; omega
      have hUU : ((us.take (k + 1)).map encJ).length = k + 1 := by simp; omega
      by_cases hk : k + 1 < lets.length
      · have c1 := hc (k + 1) hk
        have hu0 := hus (k + 1) hk
        have e1 : (lets.take (k + 1 + 1)).map encL = (lets.take (k + 1)).map encL ++ [encL (nth lets (k + 1))] := by rw [take_nth hk, List.map_append]; rfl
        have e2 : (us.take (k + 1 + 1)).map encJ = (us.take (k + 1)).map encJ ++ [[.int .i64 (nth us (k + 1))]] := by rw [take_nth (by omega), List.map_append]; rfl
        have e3 : ((lets.take (k + 1)).map encL ++ [encL (nth lets (k + 1))]).length = ((lets.take (k + 1)).map encL).length + 1 := by rw [List.length_append]; rfl
        have e4 : ((us.take (k + 1)).map encJ ++ [[Cell.int .i64 (nth us (k + 1))]]).length = ((us.take (k + 1)).map encJ).length + 1 := by rw [List.length_append]; rfl
        generalize nth us (k + 1) = u0 at *
        generalize er (k + 1) = er0 at *
        generalize pc (k + 1) = pc0 at *
        generalize U (k + 1) = U0 at *
        have hu1 : er0 = 0 → U0 = u0 := fun h => by rw [if_pos h] at hu0; exact hu0.symm
        have hu2 : ¬ er0 = 0 → u0 = -1 := fun h => by rw [if_neg h] at hu0; exact hu0
        clear hu0
        rw [show scV (lets.take (k + 1)) (us.take (k + 1)) = .agg [.sl ((lets.take (k + 1)).map encL), .sl ((us.take (k + 1)).map encJ)] from rfl] at c1
        generalize (lets.take (k + 1)).map encL = LL at *
        generalize (us.take (k + 1)).map encJ = UU at *
        by_cases he : er0 = 0
        · have hq := hu1 he
          clear hu1 hu2
          subst hq he
          repeat' (first | (refine W.weaken (Le.freeze1 (m := 5) rfl) ?_) | (refine W.idD ?_; refine W.drawH (id := 8) 14 [false, false, false, false, false, false, false, false, false, false, false, false, false, false] mixed rfl rfl ?_) | (refine RE0.id ?_; first | (apply RE0.take (L := [false, false, false, false, false, false, false, false, false, false, false, false, false, false]) (fuel := 13) 0 rfl rfl rfl rfl (by kernel_rfl) (by kernel_rfl) (by kernel_rfl)) | (apply RE0.take (L := [true, false, false, false, false, false, false, false, false, false, false, false, false, false]) (fuel := 12) 2 rfl rfl rfl rfl (by kernel_rfl) (by kernel_rfl) (by kernel_rfl)) | (apply RE0.take (L := [true, false, true, false, false, false, false, false, false, false, false, false, false, false]) (fuel := 11) 5 rfl rfl rfl rfl (by kernel_rfl) (by kernel_rfl) (by kernel_rfl)) | (apply RE0.take (L := [true, false, true, false, false, true, false, false, false, false, false, false, false, false]) (fuel := 10) 7 rfl rfl rfl rfl (by kernel_rfl) (by kernel_rfl) (by kernel_rfl)) | (refine RE0.memoK (L := [true, false, true, false, false, true, false, true, false, false, false, false, false, false]) (fn := 3) [([true, false, true, false, false, true, false, true, false, false, false, false, false, false], [(1, 1), (3, 2), (6, 3), (8, 4)]), ([true, true, true, false, false, true, false, true, false, false, false, false, false, false], [(3, 5), (6, 6), (8, 7)]), ([true, false, true, true, false, true, false, true, false, false, false, false, false, false], [(1, 5), (6, 8), (8, 9)]), ([true, false, true, false, false, true, true, true, false, false, false, false, false, false], [(1, 6), (3, 8), (8, 10)]), ([true, false, true, false, false, true, false, true, true, false, false, false, false, false], [(1, 7), (3, 9), (6, 10)]), ([true, true, true, true, false, true, false, true, false, false, false, false, false, false], [(4, 11), (6, 12), (8, 13)]), ([true, true, true, false, false, true, true, true, false, false, false, false, false, false], [(3, 12), (8, 14)]), ([true, true, true, false, false, true, false, true, true, false, false, false, false, false], [(3, 13), (6, 14)]), ([true, false, true, true, false, true, true, true, false, false, false, false, false, false], [(1, 12), (8, 15)]), ([true, false, true, true, false, true, false, true, true, false, false, false, false, false], [(1, 13), (6, 15)]), ([true, false, true, false, false, true, true, true, true, false, false, false, false, false], [(1, 14), (3, 15)]), ([true, true, true, true, true, true, false, true, false, false, false, false, false, false], [(6, 16), (8, 17)]), ([true, true, true, true, false, true, true, true, false, false, false, false, false, false], [(4, 16), (8, 18)]), ([true, true, true, true, false, true, false, true, true, false, false, false, false, false], [(4, 17), (6, 18)]), ([true, true, true, false, false, true, true, true, true, false, false, false, false, false], [(3, 18)]), ([true, false, true, true, false, true, true, true, true, false, false, false, false, false], [(1, 18)]), ([true, true, true, true, true, true, true, true, false, false, false, false, false, false], [(8, 19), (10, 20)]), ([true, true, true, true, true, true, false, true, true, false, false, false, false, false], [(6, 19)]), ([true, true, true, true, false, true, true, true, true, false, false, false, false, false], [(4, 19)]), ([true, true, true, true, true, true, true, true, true, false, false, false, false, false], [(9, 21), (10, 22)]), ([true, true, true, true, true, true, true, true, false, false, true, false, false, false], [(8, 22)]), ([true, true, true, true, true, true, true, true, true, true, false, false, false, false], [(10, 23)]), ([true, true, true, true, true, true, true, true, true, false, true, false, false, false], [(9, 23)]), ([true, true, true, true, true, true, true, true, true, true, true, false, false, false], [])] [?_, ?_, ?_, ?_, ?_, ?_, ?_, ?_, ?_, ?_, ?_, ?_, ?_, ?_, ?_, ?_, ?_, ?_, ?_, ?_, ?_, ?_, ?_, ?_] (by kernel_rfl) rfl rfl rfl rfl rfl rfl rfl rfl ?_ ?_ rfl ?_; rotate_left 24)) | (refine RE.id ?_; first | (refine RE.place (t := 28) rfl rfl (fun qb qc => ?_) (fun hz => absurd hz (by simp))) | (refine RE.place (t := 33) rfl rfl (fun qb2 qc2 => ?_) (fun hz => absurd hz (by simp))) | (refine RE.one (L := [true, true, true, true, true, true, true, true, true, true, true, false, false, false]) (i := 11) (fuel := 2) (by kernel_rfl) rfl ?_) | (refine RE.one (L := [true, true, true, true, true, true, true, true, true, true, true, true, false, false]) (i := 12) (fuel := 1) (by kernel_rfl) rfl ?_) | (refine RE.one (L := [true, true, true, true, true, true, true, true, true, true, true, true, true, false]) (i := 13) (fuel := 0) (by kernel_rfl) rfl ?_) | (refine RE.done (L := [true, true, true, true, true, true, true, true, true, true, true, true, true, true]) (by kernel_rfl) ?_)) | (apply Stab.fieldA TYok; exact Ev.auto; exact rfl; exact rfl; exact rfl; exact rfl; exact rfl) | (apply Stab.move; exact Ev.auto) | (apply Stab.loadpa TYok; exact Ev.auto; exact rfl; exact rfl; exact rfl) | exact MNP.nil | (refine MNP.cons ?_ ?_) | exact MGP.nil | (refine MGP.cons rfl rfl rfl ?_ ?_) | exact Le.refl | (refine le_self ?_; refine Le.st rfl (by repeat (first | exact SubEK.nil | refine SubEK.skip rfl ?_ | refine SubEK.one rfl (by first | exact trivial | exact rfl) ?_)) (by repeat (first | exact SubBK.nil | refine SubBK.skip rfl ?_ | refine SubBK.one rfl ?_))) | (refine W.purgeR [(5, [2, 3, 5, 8, 9, 10, 28, 33]), (6, [2, 3, 5, 6, 7, 8, 9, 10, 28, 33])] rfl (by repeat (first | exact PN.nil | apply PN.po rfl | (apply PN.pa; exact rfl; (repeat (first | (apply NR.cons; exact rfl) | exact NR.nil rfl))) | apply PN.a rfl | apply PN.s rfl | apply PN.u rfl | apply PN.m rfl | apply PN.k rfl | apply PN.i rfl | apply PN.skip)) (by repeat (first | exact PB.nil | (apply PB.one; exact rfl; (focus (first | (dsimp only; done) | (dsimp only; exact rfl) | exact rfl)); (focus (first | (dsimp only; done) | (dsimp only; exact rfl) | exact rfl)); exact rfl; (repeat (first | (apply NR.cons; exact rfl) | exact NR.nil rfl)))  | apply PB.cons rfl)) ?_) | ((first | apply U_); (first | (apply Q_callS (.tup [cI U0, .agg [pc0.blur, .int .i64 0]]) c1; exact rfl; exact Ev.auto; exact LendL.cons (LendC.pin 28 rfl rfl rfl rfl rfl) (LendL.cons (LendC.pin 33 rfl rfl rfl rfl rfl) LendL.nil); exact EvL.auto) | (apply Q_loadO TYok (tt := 33); exact rfl; exact rfl; exact rfl; exact rfl; exact rfl; exact rfl; exact Ev.auto; exact rfl; exact rfl; exact rfl; (first | exact rfl | (focus (simp; done)))) | (apply Q_loadO TYok (tt := 28); exact rfl; exact rfl; exact rfl; exact rfl; exact rfl; exact rfl; exact Ev.auto; exact rfl; exact rfl; exact rfl; (first | exact rfl | (focus (simp; done)))) | (apply Q_litD TYok; apply EvR.cons Ev.auto; (repeat (first | exact EvR.nil | apply EvR.cons Ev.auto)); exact rfl; exact rfl; exact rfl; exact rfl; exact rfl; exact rfl) | exact QX.B TYok | exact QX.Len TYok | exact QX.Idx TYok | exact QX.Ext TYok); exact rfl) | refine SX.Alloc TYok (h := ?_) | refine SX.Store TYok (h := ?_) | (apply S_appendF TYok; exact Ev.auto; exact Ev.auto; exact rfl; exact rfl; exact rfl; exact rfl; exact rfl; exact rfl; exact rfl; exact rfl; (intro r hr; first | (obtain ⟨_, _, rfl⟩ := List.mem_map.1 hr; rfl) | (obtain rfl := List.mem_singleton.1 hr; rfl)); (constructor <;> simp <;> omega); exact rfl; (repeat (first | exact FG.nil | (apply FG.keep; exact rfl; exact rfl) | (apply FG.gone; exact rfl)))) | (apply S_storeO TYok; exact Ev.auto; exact rfl; exact rfl; exact rfl; exact rfl; exact rfl; exact rfl; exact rfl; (first | (focus (simp; done)) | exact Nat.le_of_ble_eq_true rfl)) | refine SC ?_ | (refine W.condA (ht := fun hb => ?_) (hf := fun hb => ?_) <;> (try simp at hb) <;> (try (exfalso; omega))))
          all_goals first
            | (exfalso; omega)
            | (exfalso; rw [hb] at hk; simp at hk; done)
            | (refine ⟨(k + 1 + 1, qb, qc, qb2, qc2), hk, ?_, by (first | omega | (simp only; omega))⟩; dsimp only; simp only [e1, e2]; exact Le.auto)
            | trace_state
        · have hq := hu2 he
          clear hu1 hu2
          subst hq
          repeat' (first | (refine W.weaken (Le.freeze1 (m := 5) rfl) ?_) | (refine W.idD ?_; refine W.drawH (id := 8) 14 [false, false, false, false, false, false, false, false, false, false, false, false, false, false] mixed rfl rfl ?_) | (refine RE0.id ?_; first | (apply RE0.take (L := [false, false, false, false, false, false, false, false, false, false, false, false, false, false]) (fuel := 13) 0 rfl rfl rfl rfl (by kernel_rfl) (by kernel_rfl) (by kernel_rfl)) | (apply RE0.take (L := [true, false, false, false, false, false, false, false, false, false, false, false, false, false]) (fuel := 12) 2 rfl rfl rfl rfl (by kernel_rfl) (by kernel_rfl) (by kernel_rfl)) | (apply RE0.take (L := [true, false, true, false, false, false, false, false, false, false, false, false, false, false]) (fuel := 11) 5 rfl rfl rfl rfl (by kernel_rfl) (by kernel_rfl) (by kernel_rfl)) | (apply RE0.take (L := [true, false, true, false, false, true, false, false, false, false, false, false, false, false]) (fuel := 10) 7 rfl rfl rfl rfl (by kernel_rfl) (by kernel_rfl) (by kernel_rfl)) | (refine RE0.memoK (L := [true, false, true, false, false, true, false, true, false, false, false, false, false, false]) (fn := 3) [([true, false, true, false, false, true, false, true, false, false, false, false, false, false], [(1, 1), (3, 2), (6, 3), (8, 4)]), ([true, true, true, false, false, true, false, true, false, false, false, false, false, false], [(3, 5), (6, 6), (8, 7)]), ([true, false, true, true, false, true, false, true, false, false, false, false, false, false], [(1, 5), (6, 8), (8, 9)]), ([true, false, true, false, false, true, true, true, false, false, false, false, false, false], [(1, 6), (3, 8), (8, 10)]), ([true, false, true, false, false, true, false, true, true, false, false, false, false, false], [(1, 7), (3, 9), (6, 10)]), ([true, true, true, true, false, true, false, true, false, false, false, false, false, false], [(4, 11), (6, 12), (8, 13)]), ([true, true, true, false, false, true, true, true, false, false, false, false, false, false], [(3, 12), (8, 14)]), ([true, true, true, false, false, true, false, true, true, false, false, false, false, false], [(3, 13), (6, 14)]), ([true, false, true, true, false, true, true, true, false, false, false, false, false, false], [(1, 12), (8, 15)]), ([true, false, true, true, false, true, false, true, true, false, false, false, false, false], [(1, 13), (6, 15)]), ([true, false, true, false, false, true, true, true, true, false, false, false, false, false], [(1, 14), (3, 15)]), ([true, true, true, true, true, true, false, true, false, false, false, false, false, false], [(6, 16), (8, 17)]), ([true, true, true, true, false, true, true, true, false, false, false, false, false, false], [(4, 16), (8, 18)]), ([true, true, true, true, false, true, false, true, true, false, false, false, false, false], [(4, 17), (6, 18)]), ([true, true, true, false, false, true, true, true, true, false, false, false, false, false], [(3, 18)]), ([true, false, true, true, false, true, true, true, true, false, false, false, false, false], [(1, 18)]), ([true, true, true, true, true, true, true, true, false, false, false, false, false, false], [(8, 19), (10, 20)]), ([true, true, true, true, true, true, false, true, true, false, false, false, false, false], [(6, 19)]), ([true, true, true, true, false, true, true, true, true, false, false, false, false, false], [(4, 19)]), ([true, true, true, true, true, true, true, true, true, false, false, false, false, false], [(9, 21), (10, 22)]), ([true, true, true, true, true, true, true, true, false, false, true, false, false, false], [(8, 22)]), ([true, true, true, true, true, true, true, true, true, true, false, false, false, false], [(10, 23)]), ([true, true, true, true, true, true, true, true, true, false, true, false, false, false], [(9, 23)]), ([true, true, true, true, true, true, true, true, true, true, true, false, false, false], [])] [?_, ?_, ?_, ?_, ?_, ?_, ?_, ?_, ?_, ?_, ?_, ?_, ?_, ?_, ?_, ?_, ?_, ?_, ?_, ?_, ?_, ?_, ?_, ?_] (by kernel_rfl) rfl rfl rfl rfl rfl rfl rfl rfl ?_ ?_ rfl ?_; rotate_left 24)) | (refine RE.id ?_; first | (refine RE.place (t := 28) rfl rfl (fun qb qc => ?_) (fun hz => absurd hz (by simp))) | (refine RE.place (t := 33) rfl rfl (fun qb2 qc2 => ?_) (fun hz => absurd hz (by simp))) | (refine RE.one (L := [true, true, true, true, true, true, true, true, true, true, true, false, false, false]) (i := 11) (fuel := 2) (by kernel_rfl) rfl ?_) | (refine RE.one (L := [true, true, true, true, true, true, true, true, true, true, true, true, false, false]) (i := 12) (fuel := 1) (by kernel_rfl) rfl ?_) | (refine RE.one (L := [true, true, true, true, true, true, true, true, true, true, true, true, true, false]) (i := 13) (fuel := 0) (by kernel_rfl) rfl ?_) | (refine RE.done (L := [true, true, true, true, true, true, true, true, true, true, true, true, true, true]) (by kernel_rfl) ?_)) | (apply Stab.fieldA TYok; exact Ev.auto; exact rfl; exact rfl; exact rfl; exact rfl; exact rfl) | (apply Stab.move; exact Ev.auto) | (apply Stab.loadpa TYok; exact Ev.auto; exact rfl; exact rfl; exact rfl) | exact MNP.nil | (refine MNP.cons ?_ ?_) | exact MGP.nil | (refine MGP.cons rfl rfl rfl ?_ ?_) | exact Le.refl | (refine le_self ?_; refine Le.st rfl (by repeat (first | exact SubEK.nil | refine SubEK.skip rfl ?_ | refine SubEK.one rfl (by first | exact trivial | exact rfl) ?_)) (by repeat (first | exact SubBK.nil | refine SubBK.skip rfl ?_ | refine SubBK.one rfl ?_))) | (refine W.purgeR [(5, [2, 3, 5, 8, 9, 10, 28, 33]), (6, [2, 3, 5, 6, 7, 8, 9, 10, 28, 33])] rfl (by repeat (first | exact PN.nil | apply PN.po rfl | (apply PN.pa; exact rfl; (repeat (first | (apply NR.cons; exact rfl) | exact NR.nil rfl))) | apply PN.a rfl | apply PN.s rfl | apply PN.u rfl | apply PN.m rfl | apply PN.k rfl | apply PN.i rfl | apply PN.skip)) (by repeat (first | exact PB.nil | (apply PB.one; exact rfl; (focus (first | (dsimp only; done) | (dsimp only; exact rfl) | exact rfl)); (focus (first | (dsimp only; done) | (dsimp only; exact rfl) | exact rfl)); exact rfl; (repeat (first | (apply NR.cons; exact rfl) | exact NR.nil rfl)))  | apply PB.cons rfl)) ?_) | ((first | apply U_); (first | (apply Q_callS (.tup [cI U0, .agg [pc0.blur, .int .i64 er0]]) c1; exact rfl; exact Ev.auto; exact LendL.cons (LendC.pin 28 rfl rfl rfl rfl rfl) (LendL.cons (LendC.pin 33 rfl rfl rfl rfl rfl) LendL.nil); exact EvL.auto) | (apply Q_loadO TYok (tt := 33); exact rfl; exact rfl; exact rfl; exact rfl; exact rfl; exact rfl; exact Ev.auto; exact rfl; exact rfl; exact rfl; (first | exact rfl | (focus (simp; done)))) | (apply Q_loadO TYok (tt := 28); exact rfl; exact rfl; exact rfl; exact rfl; exact rfl; exact rfl; exact Ev.auto; exact rfl; exact rfl; exact rfl; (first | exact rfl | (focus (simp; done)))) | (apply Q_litD TYok; apply EvR.cons Ev.auto; (repeat (first | exact EvR.nil | apply EvR.cons Ev.auto)); exact rfl; exact rfl; exact rfl; exact rfl; exact rfl; exact rfl) | exact QX.B TYok | exact QX.Len TYok | exact QX.Idx TYok | exact QX.Ext TYok); exact rfl) | refine SX.Alloc TYok (h := ?_) | refine SX.Store TYok (h := ?_) | (apply S_appendF TYok; exact Ev.auto; exact Ev.auto; exact rfl; exact rfl; exact rfl; exact rfl; exact rfl; exact rfl; exact rfl; exact rfl; (intro r hr; first | (obtain ⟨_, _, rfl⟩ := List.mem_map.1 hr; rfl) | (obtain rfl := List.mem_singleton.1 hr; rfl)); (constructor <;> simp <;> omega); exact rfl; (repeat (first | exact FG.nil | (apply FG.keep; exact rfl; exact rfl) | (apply FG.gone; exact rfl)))) | (apply S_storeO TYok; exact Ev.auto; exact rfl; exact rfl; exact rfl; exact rfl; exact rfl; exact rfl; exact rfl; (first | (focus (simp; done)) | exact Nat.le_of_ble_eq_true rfl)) | refine SC ?_ | (refine W.condA (ht := fun hb => ?_) (hf := fun hb => ?_) <;> (try simp at hb) <;> (try (exfalso; omega))))
          all_goals first
            | (exfalso; omega)
            | (exfalso; rw [hb] at hk; simp at hk; done)
            | (refine ⟨(k + 1 + 1, qb, qc, qb2, qc2), hk, ?_, by (first | omega | (simp only; omega))⟩; dsimp only; simp only [e1, e2]; exact Le.auto)
            | trace_state
      · have hl1 : k + 1 = lets.length := by omega
        have n1 : lets.take (k + 1) = lets := List.take_of_length_le (by omega)
        have n2 : us.take (k + 1) = us := List.take_of_length_le (by omega)
        simp only [n1, n2] at hLL hUU ⊢
        repeat' (first | ((first | apply U_); (first | exact QX.B TYok | exact QX.Len TYok | exact QX.Idx TYok | exact QX.Ext TYok); exact rfl) | refine SX.Store TYok (h := ?_) | refine SC ?_ | (refine W.condA (ht := fun hb => ?_) (hf := fun hb => ?_) <;> (try simp at hb) <;> (try (exfalso; omega))))
        all_goals first
          | (exfalso; omega)
          | exact ⟨_, Le.freezeS (row' := [.sl (lets.map encL), .sl (us.map encJ)]) (m := 2) rfl rfl rfl (LendL.cons (LendC.pin 28 rfl rfl rfl rfl rfl) (LendL.cons (LendC.pin 33 rfl rfl rfl rfl rfl) LendL.nil)), FinM.ret ResM.auto⟩
          | trace_state
end
end Go.Proofs.Ytppdbmobcfedcaa
end
