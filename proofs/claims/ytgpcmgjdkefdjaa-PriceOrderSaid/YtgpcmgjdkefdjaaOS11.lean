/-
  Part 11 of what the proof rests on.
-/
import Derived.Test.YtgpcmgjdkefdjaaOS10
import Derived.Shelf.Spec.SlicesGrow
import Derived.Test.YtgpcmgjdkefdjaaProg
import Derived.Test.YtgpcmgjdkefdjaaOS03
import Derived.ProofKit
import Derived.OpenShut
import Derived.Carry
import Derived.Test.YtgpcmgjdkefdjaaOS04
import Derived.Lib.LaidTab
section
set_option linter.unusedVariables false
set_option linter.unusedSimpArgs false
set_option maxHeartbeats 8000000
namespace Go.Proofs.Ytgpcmgjdkefdjaa
open Lf Go
attribute [local irreducible] PureOp EffOp Ev RG W Then InBlock Lf.Fin nth App InitE Pick SubE EvL EvD EvP EvR ResL Lf.Lex SubR SubBR RA RAll EvC FinO FinM ResM ResD FinS val pw digs trimL
section
attribute [local irreducible] sgn mag gcdZ quoZ remZ fullZ fullE
theorem year_ok (f : Fl) (d : Int) (h : (0 ≤ f.day ∧ f.day ≤ 200000) ∧ (0 ≤ d ∧ d ≤ 200000)) : ACalls Try.prog 33 [aW f, cI d] (.pv (cI (if f.day < d then -1 else yrI d f))) := by
  by_cases h1 : f.day < d
  · rw [if_pos h1]
    refine ACalls.of_W (qs := [cI (-1)]) [4] 14 Try.func33 (by kernel_rfl) rfl rfl rfl fun G => ?_
    refine W.initA (hw := ?_)
    repeat' (first | ((first | apply U_); (first | exact QX.B TYok); exact rfl) | refine SX.Box TYok (h := ?_) | refine SC ?_ | (refine W.condA (ht := fun hb => ?_) (hf := fun hb => ?_) <;> (try simp at hb) <;> (try (exfalso; omega))))
    all_goals exact Fin.ret ResL.auto
  · rw [if_neg h1]
    unfold yrI
    refine ACalls.of_W (qs := [cI ((f.day - d) / 365)]) [4] 14 Try.func33 (by kernel_rfl) rfl rfl rfl fun G => ?_
    refine W.initA (hw := ?_)
    repeat' (first | ((first | apply U_); (first | exact QX.B TYok); exact rfl) | refine SX.Box TYok (h := ?_) | refine SC ?_ | (refine W.condA (ht := fun hb => ?_) (hf := fun hb => ?_) <;> (try simp at hb) <;> (try (exfalso; omega))))
    all_goals exact Fin.ret ResL.auto
def lateB (L : List Fq) (d : Int) (f : Fl) : Bool := decide ((L.length : Int) ≤ yrI d f)
section
variable (l : List Fl) (d : Int) (L : List Fq) (hl : l.length ≤ 9223372036854775807) (hL : L.length ≤ 9223372036854775807) (hq : ∀ q ∈ L, FqOk q)
include hl hL hq
open Classical in
theorem rvalue_arg (h : ¬ (flowsB l d = true ∧ FOk L)) : ACalls Try.prog 11 [slW l, cI d, slF L] (.tup [zF0, cI 1]) := by
  have p1 := flows_ok l d hl
  have p2 := rfac_ok L hL hq (decide (FOk L)) (by simp)
  have hbad : flowsB l d = true ∧ decide (FOk L) = true → False := fun q => h ⟨q.1, of_decide_eq_true q.2⟩
  generalize flowsB l d = b1 at *
  generalize decide (FOk L) = b2 at *
  refine ACalls.of_M TYok (qs := [zF0, cI 1]) [.cell 6 31, .tmp 7] 96 Try.func11 (by kernel_rfl) rfl rfl rfl fun G => ?_
  refine W.initA (hw := ?_)
  repeat' (first | ((first | apply U_ | (apply Ug_; exact rfl; exact rfl) | (apply Ugq_; exact rfl; exact rfl)); (first | exact QX.B TYok | exact QX.Len TYok | exact QX.Idx TYok | exact QX.Ext TYok | exact QX.Build TYok | exact QCd (p1) | exact QCd (p2)); exact rfl) | refine SX.Alloc TYok (h := ?_) | refine SX.Store TYok (h := ?_) | refine SC ?_ | refine SG ?_ | apply LexS.nil | (apply LexS.f; exact rfl; (first | (apply FreshV.alloc TYok; exact rfl; exact rfl; exact rfl; exact rfl) | (apply FreshV.lit TYok; (repeat (first | exact EvR.nil | apply EvR.cons Ev.auto)); exact rfl; exact rfl; exact rfl; exact rfl; exact rfl; exact rfl; exact rfl; exact rfl; exact rfl) | (apply FreshV.box; exact Ev.auto; exact rfl; exact rfl; exact rfl)); exact rfl; exact rfl; exact rfl) | (apply LexS.s; exact rfl; exact rfl; (apply StoreV.mk TYok; exact Ev.auto; exact Ev.auto; exact rfl; exact rfl; exact rfl; exact rfl; exact rfl)) | ((first | apply LexS.u | (apply LexS.g; exact rfl; exact rfl) | (apply LexS.gq; exact rfl; exact rfl)); (repeat (first | (apply NB.cons; exact rfl) | exact NB.nil rfl)); (first | exact QX.B TYok | exact QX.Len TYok | exact QX.Idx TYok | exact QX.Ext TYok | exact QX.Build TYok | exact QCd (p1) | exact QCd (p2)); exact rfl; exact rfl; exact rfl) | (refine W.drawS (id := 16) [0, 0, 3, 7, 15, 31, 0, 0, 0, 384, 896, 0, 4031, 8191, 16383, 32767, 65535, 131071, 131071, 0, 786431, 2097151] [[0], [11], [62, 63], [64], [65], [66], [2], [0], [11], [69, 70], [71], [1], [72, 73], [68, 74], [75], [67, 76], [77], [61], [61], [], [12, 78], [79]] [(20, (12, ?_)), (19, (12, ?_))] [(20, 12), (19, 12)] mixed (by kernel_rfl) rfl ?_; rotate_left 2) | (refine W.condA (ht := fun hb => ?_) (hf := fun hb => ?_) <;> (try simp at hb) <;> (try (exfalso; first | exact hbad hb | omega))))
  all_goals first
    | exact FinM.ret (ResM.cell rfl rfl rfl rfl zeroSubF (ResM.tmp rfl rfl PSub.rfl' ResM.nil))
    | trace_state
theorem rvalue_early (h1 : flowsB l d = true) (h2 : FOk L) (he : (l.any fun f => decide (f.day < d)) = true) : ACalls Try.prog 11 [slW l, cI d, slF L] (.tup [zF0, cI 20]) := by
  have p1 := flows_ok l d hl
  rw [h1] at p1
  have p2 := rfac_ok L hL hq true (by simp [h2])
  have fy := flowsB_yes h1
  refine ACalls.of_M TYok (qs := [zF0, cI 20]) [.cell 6 31, .tmp 7] 96 Try.func11 (by kernel_rfl) rfl rfl rfl fun G => ?_
  refine W.initA (hw := ?_)
  repeat' (first | ((first | apply U_ | (apply Ug_; exact rfl; exact rfl) | (apply Ugq_; exact rfl; exact rfl)); (first | exact QX.B TYok | exact QX.Len TYok | exact QX.Idx TYok | exact QX.Ext TYok | exact QX.Build TYok | exact QCd (p1) | exact QCd (p2)); exact rfl) | refine SX.Alloc TYok (h := ?_) | refine SX.Store TYok (h := ?_) | refine SC ?_ | refine SG ?_ | apply LexS.nil | (apply LexS.f; exact rfl; (first | (apply FreshV.alloc TYok; exact rfl; exact rfl; exact rfl; exact rfl) | (apply FreshV.lit TYok; (repeat (first | exact EvR.nil | apply EvR.cons Ev.auto)); exact rfl; exact rfl; exact rfl; exact rfl; exact rfl; exact rfl; exact rfl; exact rfl; exact rfl) | (apply FreshV.box; exact Ev.auto; exact rfl; exact rfl; exact rfl)); exact rfl; exact rfl; exact rfl) | (apply LexS.s; exact rfl; exact rfl; (apply StoreV.mk TYok; exact Ev.auto; exact Ev.auto; exact rfl; exact rfl; exact rfl; exact rfl; exact rfl)) | ((first | apply LexS.u | (apply LexS.g; exact rfl; exact rfl) | (apply LexS.gq; exact rfl; exact rfl)); (repeat (first | (apply NB.cons; exact rfl) | exact NB.nil rfl)); (first | exact QX.B TYok | exact QX.Len TYok | exact QX.Idx TYok | exact QX.Ext TYok | exact QX.Build TYok | exact QCd (p1) | exact QCd (p2)); exact rfl; exact rfl; exact rfl) | (refine W.drawS (id := 16) [0, 0, 3, 7, 15, 31, 0, 0, 0, 384, 896, 0, 4031, 8191, 16383, 32767, 65535, 131071, 131071, 0, 786431, 2097151] [[0], [11], [62, 63], [64], [65], [66], [2], [0], [11], [69, 70], [71], [1], [72, 73], [68, 74], [75], [67, 76], [77], [61], [61], [], [12, 78], [79]] [(20, (12, ?_)), (19, (12, ?_))] [(20, 12), (19, 12)] mixed (by kernel_rfl) rfl ?_; rotate_left 2) | (refine W.condA (ht := fun hb => ?_) (hf := fun hb => ?_) <;> (try simp at hb) <;> (try (exfalso; omega))))
  apply W.loopP (σ := Nat) 96 [0, 1, 2, 6] (fun k => k ≤ l.length ∧ ((l.take k).any fun f => decide (f.day < d)) = false) (fun k => [(9, vI k), (8, (True, .pv (cB ((l.take k).any (lateB L d)))))]) (fun k => [(6, ⟨31, 4, [[.int .i64 0, .slnil, .int .i64 0, .slnil]]⟩)]) (fun k => l.length - k) (0)
  case hp => repeat (first | exact Pick.nil | apply Pick.cons rfl)
  case h0 =>
    refine ⟨by simp, ?_⟩
    exact Le.auto
  case round =>
    rintro k ⟨g1, g2⟩
    apply W.norm (by repeat (first | exact App.nil | apply App.cons))
    by_cases hk : k < l.length
    case neg =>
      obtain rfl : k = l.length := by omega
      rw [List.take_length, he] at g2
      cases g2
    have hm := nth_mem hk
    have f1 := fy.2 _ hm
    have y1 := year_ok (nth l k) d ⟨f1.1, fy.1.1⟩
    have e1 := any_take (p := fun f : Fl => decide (f.day < d)) hk
    have e2 := any_take (p := lateB L d) hk
    rw [g2, Bool.false_or] at e1
    by_cases hd : (nth l k).day < d
    · rw [if_pos hd] at y1
      generalize (l.take k).any (lateB L d) = B at *
      repeat' (first | ((first | apply U_ | (apply Ug_; exact rfl; exact rfl) | (apply Ugq_; exact rfl; exact rfl)); (first | exact QX.B TYok | exact QX.Len TYok | exact QX.Idx TYok | exact QX.Ext TYok | exact QX.Build TYok | exact QCd (y1)); exact rfl) | refine SX.Alloc TYok (h := ?_) | refine SX.Store TYok (h := ?_) | refine SC ?_ | refine SG ?_ | apply LexS.nil | (apply LexS.f; exact rfl; (first | (apply FreshV.alloc TYok; exact rfl; exact rfl; exact rfl; exact rfl) | (apply FreshV.lit TYok; (repeat (first | exact EvR.nil | apply EvR.cons Ev.auto)); exact rfl; exact rfl; exact rfl; exact rfl; exact rfl; exact rfl; exact rfl; exact rfl; exact rfl) | (apply FreshV.box; exact Ev.auto; exact rfl; exact rfl; exact rfl)); exact rfl; exact rfl; exact rfl) | (apply LexS.s; exact rfl; exact rfl; (apply StoreV.mk TYok; exact Ev.auto; exact Ev.auto; exact rfl; exact rfl; exact rfl; exact rfl; exact rfl)) | ((first | apply LexS.u | (apply LexS.g; exact rfl; exact rfl) | (apply LexS.gq; exact rfl; exact rfl)); (repeat (first | (apply NB.cons; exact rfl) | exact NB.nil rfl)); (first | exact QX.B TYok | exact QX.Len TYok | exact QX.Idx TYok | exact QX.Ext TYok | exact QX.Build TYok | exact QCd (y1)); exact rfl; exact rfl; exact rfl) | (refine W.drawS (id := 16) [0, 0, 3, 7, 15, 31, 0, 0, 0, 384, 896, 0, 4031, 8191, 16383, 32767, 65535, 131071, 131071, 0, 786431, 2097151] [[0], [11], [62, 63], [64], [65], [66], [2], [0], [11], [69, 70], [71], [1], [72, 73], [68, 74], [75], [67, 76], [77], [61], [61], [], [12, 78], [79]] [(20, (12, ?_)), (19, (12, ?_))] [(20, 12), (19, 12)] mixed (by kernel_rfl) rfl ?_; rotate_left 2) | (refine W.condA (ht := fun hb => ?_) (hf := fun hb => ?_) <;> (try simp at hb) <;> (try (exfalso; omega))))
      all_goals first
        | exact FinM.ret (ResM.cell rfl rfl rfl rfl zeroSubF (ResM.tmp rfl rfl PSub.rfl' ResM.nil))
        | (exfalso; omega)
        | trace_state
    · rw [if_neg hd] at y1
      rw [decide_eq_false hd] at e1
      have hy : 0 ≤ yrI d (nth l k) := by unfold yrI; omega
      have el : lateB L d (nth l k) = decide ((L.length : Int) ≤ yrI d (nth l k)) := rfl
      rw [el] at e2
      generalize yrI d (nth l k) = Y at *
      generalize (l.take k).any (lateB L d) = B at *
      repeat' (first | ((first | apply U_ | (apply Ug_; exact rfl; exact rfl) | (apply Ugq_; exact rfl; exact rfl)); (first | exact QX.B TYok | exact QX.Len TYok | exact QX.Idx TYok | exact QX.Ext TYok | exact QX.Build TYok | exact QCd (y1)); exact rfl) | refine SX.Alloc TYok (h := ?_) | refine SX.Store TYok (h := ?_) | refine SC ?_ | refine SG ?_ | apply LexS.nil | (apply LexS.f; exact rfl; (first | (apply FreshV.alloc TYok; exact rfl; exact rfl; exact rfl; exact rfl) | (apply FreshV.lit TYok; (repeat (first | exact EvR.nil | apply EvR.cons Ev.auto)); exact rfl; exact rfl; exact rfl; exact rfl; exact rfl; exact rfl; exact rfl; exact rfl; exact rfl) | (apply FreshV.box; exact Ev.auto; exact rfl; exact rfl; exact rfl)); exact rfl; exact rfl; exact rfl) | (apply LexS.s; exact rfl; exact rfl; (apply StoreV.mk TYok; exact Ev.auto; exact Ev.auto; exact rfl; exact rfl; exact rfl; exact rfl; exact rfl)) | ((first | apply LexS.u | (apply LexS.g; exact rfl; exact rfl) | (apply LexS.gq; exact rfl; exact rfl)); (repeat (first | (apply NB.cons; exact rfl) | exact NB.nil rfl)); (first | exact QX.B TYok | exact QX.Len TYok | exact QX.Idx TYok | exact QX.Ext TYok | exact QX.Build TYok | exact QCd (y1)); exact rfl; exact rfl; exact rfl) | (refine W.drawS (id := 16) [0, 0, 3, 7, 15, 31, 0, 0, 0, 384, 896, 0, 4031, 8191, 16383, 32767, 65535, 131071, 131071, 0, 786431, 2097151] [[0], [11], [62, 63], [64], [65], [66], [2], [0], [11], [69, 70], [71], [1], [72, 73], [68, 74], [75], [67, 76], [77], [61], [61], [], [12, 78], [79]] [(20, (12, ?_)), (19, (12, ?_))] [(20, 12), (19, 12)] mixed (by kernel_rfl) rfl ?_; rotate_left 2) | (refine W.condA (ht := fun hb => ?_) (hf := fun hb => ?_) <;> (try simp at hb) <;> (try (exfalso; omega))))
      all_goals first
        | (refine ⟨k + 1, ⟨by omega, e1⟩, ?_, by omega⟩; (try dsimp only); rw [e2]; exact Le.auto)
        | (exfalso; omega)
        | trace_state
theorem rvalue_late (h1 : flowsB l d = true) (h2 : FOk L) (he : (l.any fun f => decide (f.day < d)) = false) (hla : (l.any fun f => decide ((L.length : Int) ≤ yrI d f)) = true) : ACalls Try.prog 11 [slW l, cI d, slF L] (.tup [zF0, cI 3]) := by
  have p1 := flows_ok l d hl
  rw [h1] at p1
  have p2 := rfac_ok L hL hq true (by simp [h2])
  have fy := flowsB_yes h1
  refine ACalls.of_M TYok (qs := [zF0, cI 3]) [.cell 6 31, .tmp 7] 96 Try.func11 (by kernel_rfl) rfl rfl rfl fun G => ?_
  refine W.initA (hw := ?_)
  repeat' (first | ((first | apply U_ | (apply Ug_; exact rfl; exact rfl) | (apply Ugq_; exact rfl; exact rfl)); (first | exact QX.B TYok | exact QX.Len TYok | exact QX.Idx TYok | exact QX.Ext TYok | exact QX.Build TYok | exact QCd (p1) | exact QCd (p2)); exact rfl) | refine SX.Alloc TYok (h := ?_) | refine SX.Store TYok (h := ?_) | refine SC ?_ | refine SG ?_ | apply LexS.nil | (apply LexS.f; exact rfl; (first | (apply FreshV.alloc TYok; exact rfl; exact rfl; exact rfl; exact rfl) | (apply FreshV.lit TYok; (repeat (first | exact EvR.nil | apply EvR.cons Ev.auto)); exact rfl; exact rfl; exact rfl; exact rfl; exact rfl; exact rfl; exact rfl; exact rfl; exact rfl) | (apply FreshV.box; exact Ev.auto; exact rfl; exact rfl; exact rfl)); exact rfl; exact rfl; exact rfl) | (apply LexS.s; exact rfl; exact rfl; (apply StoreV.mk TYok; exact Ev.auto; exact Ev.auto; exact rfl; exact rfl; exact rfl; exact rfl; exact rfl)) | ((first | apply LexS.u | (apply LexS.g; exact rfl; exact rfl) | (apply LexS.gq; exact rfl; exact rfl)); (repeat (first | (apply NB.cons; exact rfl) | exact NB.nil rfl)); (first | exact QX.B TYok | exact QX.Len TYok | exact QX.Idx TYok | exact QX.Ext TYok | exact QX.Build TYok | exact QCd (p1) | exact QCd (p2)); exact rfl; exact rfl; exact rfl) | (refine W.drawS (id := 16) [0, 0, 3, 7, 15, 31, 0, 0, 0, 384, 896, 0, 4031, 8191, 16383, 32767, 65535, 131071, 131071, 0, 786431, 2097151] [[0], [11], [62, 63], [64], [65], [66], [2], [0], [11], [69, 70], [71], [1], [72, 73], [68, 74], [75], [67, 76], [77], [61], [61], [], [12, 78], [79]] [(20, (12, ?_)), (19, (12, ?_))] [(20, 12), (19, 12)] mixed (by kernel_rfl) rfl ?_; rotate_left 2) | (refine W.condA (ht := fun hb => ?_) (hf := fun hb => ?_) <;> (try simp at hb) <;> (try (exfalso; omega))))
  apply W.loopP (σ := Nat) 96 [0, 1, 2, 6] (fun k => k ≤ l.length) (fun k => [(9, vI k), (8, (True, .pv (cB ((l.take k).any (lateB L d)))))]) (fun k => [(6, ⟨31, 4, [[.int .i64 0, .slnil, .int .i64 0, .slnil]]⟩)]) (fun k => l.length - k) (0)
  case hp => repeat (first | exact Pick.nil | apply Pick.cons rfl)
  case h0 =>
    refine ⟨by simp, ?_⟩
    exact Le.auto
  case round =>
    rintro k g1
    apply W.norm (by repeat (first | exact App.nil | apply App.cons))
    by_cases hk : k < l.length
    case neg =>
      obtain rfl : k = l.length := by omega
      rw [List.take_length, show l.any (lateB L d) = true from hla]
      repeat' (first | ((first | apply U_ | (apply Ug_; exact rfl; exact rfl) | (apply Ugq_; exact rfl; exact rfl)); (first | exact QX.B TYok | exact QX.Len TYok | exact QX.Idx TYok | exact QX.Ext TYok | exact QX.Build TYok); exact rfl) | refine SX.Alloc TYok (h := ?_) | refine SX.Store TYok (h := ?_) | refine SC ?_ | refine SG ?_ | apply LexS.nil | (apply LexS.f; exact rfl; (first | (apply FreshV.alloc TYok; exact rfl; exact rfl; exact rfl; exact rfl) | (apply FreshV.lit TYok; (repeat (first | exact EvR.nil | apply EvR.cons Ev.auto)); exact rfl; exact rfl; exact rfl; exact rfl; exact rfl; exact rfl; exact rfl; exact rfl; exact rfl) | (apply FreshV.box; exact Ev.auto; exact rfl; exact rfl; exact rfl)); exact rfl; exact rfl; exact rfl) | (apply LexS.s; exact rfl; exact rfl; (apply StoreV.mk TYok; exact Ev.auto; exact Ev.auto; exact rfl; exact rfl; exact rfl; exact rfl; exact rfl)) | ((first | apply LexS.u | (apply LexS.g; exact rfl; exact rfl) | (apply LexS.gq; exact rfl; exact rfl)); (repeat (first | (apply NB.cons; exact rfl) | exact NB.nil rfl)); (first | exact QX.B TYok | exact QX.Len TYok | exact QX.Idx TYok | exact QX.Ext TYok | exact QX.Build TYok); exact rfl; exact rfl; exact rfl) | (refine W.drawS (id := 16) [0, 0, 3, 7, 15, 31, 0, 0, 0, 384, 896, 0, 4031, 8191, 16383, 32767, 65535, 131071, 131071, 0, 786431, 2097151] [[0], [11], [62, 63], [64], [65], [66], [2], [0], [11], [69, 70], [71], [1], [72, 73], [68, 74], [75], [67, 76], [77], [61], [61], [], [12, 78], [79]] [(20, (12, ?_)), (19, (12, ?_))] [(20, 12), (19, 12)] mixed (by kernel_rfl) rfl ?_; rotate_left 2) | (refine W.condA (ht := fun hb => ?_) (hf := fun hb => ?_) <;> (try simp at hb) <;> (try (exfalso; omega))))
      all_goals first
        | exact FinM.ret (ResM.cell rfl rfl rfl rfl zeroSubF (ResM.tmp rfl rfl PSub.rfl' ResM.nil))
        | trace_state
    have hm := nth_mem hk
    have f1 := fy.2 _ hm
    have y1 := year_ok (nth l k) d ⟨f1.1, fy.1.1⟩
    have e2 := any_take (p := lateB L d) hk
    have hd : ¬ (nth l k).day < d := by
      have := List.any_eq_false.1 he _ hm
      simpa using this
    rw [if_neg hd] at y1
    have hy : 0 ≤ yrI d (nth l k) := by unfold yrI; omega
    have el : lateB L d (nth l k) = decide ((L.length : Int) ≤ yrI d (nth l k)) := rfl
    rw [el] at e2
    generalize yrI d (nth l k) = Y at *
    generalize (l.take k).any (lateB L d) = B at *
    repeat' (first | ((first | apply U_ | (apply Ug_; exact rfl; exact rfl) | (apply Ugq_; exact rfl; exact rfl)); (first | exact QX.B TYok | exact QX.Len TYok | exact QX.Idx TYok | exact QX.Ext TYok | exact QX.Build TYok | exact QCd (y1)); exact rfl) | refine SX.Alloc TYok (h := ?_) | refine SX.Store TYok (h := ?_) | refine SC ?_ | refine SG ?_ | apply LexS.nil | (apply LexS.f; exact rfl; (first | (apply FreshV.alloc TYok; exact rfl; exact rfl; exact rfl; exact rfl) | (apply FreshV.lit TYok; (repeat (first | exact EvR.nil | apply EvR.cons Ev.auto)); exact rfl; exact rfl; exact rfl; exact rfl; exact rfl; exact rfl; exact rfl; exact rfl; exact rfl) | (apply FreshV.box; exact Ev.auto; exact rfl; exact rfl; exact rfl)); exact rfl; exact rfl; exact rfl) | (apply LexS.s; exact rfl; exact rfl; (apply StoreV.mk TYok; exact Ev.auto; exact Ev.auto; exact rfl; exact rfl; exact rfl; exact rfl; exact rfl)) | ((first | apply LexS.u | (apply LexS.g; exact rfl; exact rfl) | (apply LexS.gq; exact rfl; exact rfl)); (repeat (first | (apply NB.cons; exact rfl) | exact NB.nil rfl)); (first | exact QX.B TYok | exact QX.Len TYok | exact QX.Idx TYok | exact QX.Ext TYok | exact QX.Build TYok | exact QCd (y1)); exact rfl; exact rfl; exact rfl) | (refine W.drawS (id := 16) [0, 0, 3, 7, 15, 31, 0, 0, 0, 384, 896, 0, 4031, 8191, 16383, 32767, 65535, 131071, 131071, 0, 786431, 2097151] [[0], [11], [62, 63], [64], [65], [66], [2], [0], [11], [69, 70], [71], [1], [72, 73], [68, 74], [75], [67, 76], [77], [61], [61], [], [12, 78], [79]] [(20, (12, ?_)), (19, (12, ?_))] [(20, 12), (19, 12)] mixed (by kernel_rfl) rfl ?_; rotate_left 2) | (refine W.condA (ht := fun hb => ?_) (hf := fun hb => ?_) <;> (try simp at hb) <;> (try (exfalso; omega))))
    all_goals first
      | (refine ⟨k + 1, by omega, ?_, by omega⟩; (try dsimp only); rw [e2]; exact Le.auto)
      | (exfalso; omega)
      | trace_state
end
section
variable (l : List Fl) (d : Int) (L : List Fq) (hv : VIn l d L) (hq : ∀ q ∈ L, FqOk q)
include hv hq
theorem rvalue_walk (n : Nat) (hn : n ≤ l.length) (hu : ∀ j, j < n → addOk (vsum L d l j) (term L d (nth l j))) (e : Int) (V : PV) (he : (e = 0 ∧ n = l.length ∧ V = zF (vsum L d l n)) ∨ (e = 6 ∧ n < l.length ∧ V = zF0 ∧ ¬ addOk (vsum L d l n) (term L d (nth l n)))) :
    ACalls Try.prog 11 [slW l, cI d, slF L] (.tup [V, cI e]) := by
  have fy := flowsB_yes hv.fl
  have hl : l.length ≤ 9223372036854775807 := by omega
  have hL : L.length ≤ 9223372036854775807 := by have := hv.fk.2; omega
  have p1 := flows_ok l d hl
  rw [hv.fl] at p1
  have p2 := rfac_ok L hL hq true (by simp [hv.fk])
  have w0 := qwhole_ok 0 (by unfold i64B; omega)
  have okS := vsum_ok hv hn hu
  have hyr : ∀ k, k < l.length → ACalls Try.prog 33 [aW (nth l k), cI d] (.pv (cI (yrI d (nth l k)))) := fun k hk => by
    have hm := nth_mem hk
    have y1 := year_ok (nth l k) d ⟨(fy.2 _ hm).1, fy.1.1⟩
    rw [if_neg (by have := hv.early _ hm; omega)] at y1
    exact y1
  have hla : ∀ k, k ≤ l.length → (l.take k).any (lateB L d) = false := fun k hk => by
    refine List.any_eq_false.2 fun x hx => ?_
    have := hv.late x (List.mem_of_mem_take hx)
    unfold lateB
    simp only [decide_eq_true_iff]
    omega
  refine ACalls.of_M TYok (qs := [V, cI e]) [.cell 6 31, .tmp 7] 96 Try.func11 (by kernel_rfl) rfl rfl rfl fun G => ?_
  refine W.initA (hw := ?_)
  repeat' (first | ((first | apply U_ | (apply Ug_; exact rfl; exact rfl) | (apply Ugq_; exact rfl; exact rfl)); (first | exact QX.B TYok | exact QX.Len TYok | exact QX.Idx TYok | exact QX.Ext TYok | exact QX.Build TYok | exact QCd (p1) | exact QCd (p2)); exact rfl) | refine SX.Alloc TYok (h := ?_) | refine SX.Store TYok (h := ?_) | refine SC ?_ | refine SG ?_ | apply LexS.nil | (apply LexS.f; exact rfl; (first | (apply FreshV.alloc TYok; exact rfl; exact rfl; exact rfl; exact rfl) | (apply FreshV.lit TYok; (repeat (first | exact EvR.nil | apply EvR.cons Ev.auto)); exact rfl; exact rfl; exact rfl; exact rfl; exact rfl; exact rfl; exact rfl; exact rfl; exact rfl) | (apply FreshV.box; exact Ev.auto; exact rfl; exact rfl; exact rfl)); exact rfl; exact rfl; exact rfl) | (apply LexS.s; exact rfl; exact rfl; (apply StoreV.mk TYok; exact Ev.auto; exact Ev.auto; exact rfl; exact rfl; exact rfl; exact rfl; exact rfl)) | ((first | apply LexS.u | (apply LexS.g; exact rfl; exact rfl) | (apply LexS.gq; exact rfl; exact rfl)); (repeat (first | (apply NB.cons; exact rfl) | exact NB.nil rfl)); (first | exact QX.B TYok | exact QX.Len TYok | exact QX.Idx TYok | exact QX.Ext TYok | exact QX.Build TYok | exact QCd (p1) | exact QCd (p2)); exact rfl; exact rfl; exact rfl) | (refine W.drawS (id := 16) [0, 0, 3, 7, 15, 31, 0, 0, 0, 384, 896, 0, 4031, 8191, 16383, 32767, 65535, 131071, 131071, 0, 786431, 2097151] [[0], [11], [62, 63], [64], [65], [66], [2], [0], [11], [69, 70], [71], [1], [72, 73], [68, 74], [75], [67, 76], [77], [61], [61], [], [12, 78], [79]] [(20, (12, ?_)), (19, (12, ?_))] [(20, 12), (19, 12)] mixed (by kernel_rfl) rfl ?_; rotate_left 2) | (refine W.condA (ht := fun hb => ?_) (hf := fun hb => ?_) <;> (try simp at hb) <;> (try (exfalso; omega))))
  apply W.loopP (σ := Nat) 96 [0, 1, 2, 6] (fun k => k ≤ l.length) (fun k => [(9, vI k), (8, (True, .pv (cB false)))]) (fun k => [(6, ⟨31, 4, [[.int .i64 0, .slnil, .int .i64 0, .slnil]]⟩)]) (fun k => l.length - k) (0)
  case hp => repeat (first | exact Pick.nil | apply Pick.cons rfl)
  case h0 =>
    refine ⟨by simp, ?_⟩
    exact Le.auto
  case round =>
    rintro k g1
    apply W.norm (by repeat (first | exact App.nil | apply App.cons))
    by_cases hk : k < l.length
    · have y1 := hyr k hk
      obtain ⟨hy, _, _⟩ := hv.term_bd hk
      have hlt : decide ((L.length : Int) ≤ yrI d (nth l k)) = false := decide_eq_false (by omega)
      generalize yrI d (nth l k) = Y at *
      repeat' (first | ((first | apply U_ | (apply Ug_; exact rfl; exact rfl) | (apply Ugq_; exact rfl; exact rfl)); (first | exact QX.B TYok | exact QX.Len TYok | exact QX.Idx TYok | exact QX.Ext TYok | exact QX.Build TYok | exact QCd (y1)); exact rfl) | refine SX.Alloc TYok (h := ?_) | refine SX.Store TYok (h := ?_) | refine SC ?_ | refine SG ?_ | apply LexS.nil | (apply LexS.f; exact rfl; (first | (apply FreshV.alloc TYok; exact rfl; exact rfl; exact rfl; exact rfl) | (apply FreshV.lit TYok; (repeat (first | exact EvR.nil | apply EvR.cons Ev.auto)); exact rfl; exact rfl; exact rfl; exact rfl; exact rfl; exact rfl; exact rfl; exact rfl; exact rfl) | (apply FreshV.box; exact Ev.auto; exact rfl; exact rfl; exact rfl)); exact rfl; exact rfl; exact rfl) | (apply LexS.s; exact rfl; exact rfl; (apply StoreV.mk TYok; exact Ev.auto; exact Ev.auto; exact rfl; exact rfl; exact rfl; exact rfl; exact rfl)) | ((first | apply LexS.u | (apply LexS.g; exact rfl; exact rfl) | (apply LexS.gq; exact rfl; exact rfl)); (repeat (first | (apply NB.cons; exact rfl) | exact NB.nil rfl)); (first | exact QX.B TYok | exact QX.Len TYok | exact QX.Idx TYok | exact QX.Ext TYok | exact QX.Build TYok | exact QCd (y1)); exact rfl; exact rfl; exact rfl) | (refine W.drawS (id := 16) [0, 0, 3, 7, 15, 31, 0, 0, 0, 384, 896, 0, 4031, 8191, 16383, 32767, 65535, 131071, 131071, 0, 786431, 2097151] [[0], [11], [62, 63], [64], [65], [66], [2], [0], [11], [69, 70], [71], [1], [72, 73], [68, 74], [75], [67, 76], [77], [61], [61], [], [12, 78], [79]] [(20, (12, ?_)), (19, (12, ?_))] [(20, 12), (19, 12)] mixed (by kernel_rfl) rfl ?_; rotate_left 2) | (refine W.condA (ht := fun hb => ?_) (hf := fun hb => ?_) <;> (try simp at hb) <;> (try (exfalso; omega))))
      all_goals first
        | (refine ⟨k + 1, by omega, ?_, by omega⟩
           refine Le.mkR rfl rfl ?_ ?_ ?_ rfl
           · refine SubR.p rfl rfl ?_
             refine SubR.p rfl ?_ SubR.nil
             show AV.pv (cB (false || decide ((L.length : Int) ≤ Y))) = AV.pv (cB false)
             rw [hlt]; rfl
           · repeat (first | exact SubR.nil | apply SubR.p rfl rfl | apply SubR.s rfl rfl rfl | apply SubR.a rfl rfl rfl)
           · repeat (first | exact SubBR.nil | apply SubBR.cons rfl rfl))
        | (exfalso; omega)
        | trace_state
    obtain rfl : k = l.length := by omega
    repeat' (first | ((first | apply U_ | (apply Ug_; exact rfl; exact rfl) | (apply Ugq_; exact rfl; exact rfl)); (first | exact QX.B TYok | exact QX.Len TYok | exact QX.Idx TYok | exact QX.Ext TYok | exact QX.Build TYok | exact QCd (w0)); exact rfl) | refine SX.Alloc TYok (h := ?_) | refine SX.Store TYok (h := ?_) | refine SC ?_ | refine SG ?_ | apply LexS.nil | (apply LexS.f; exact rfl; (first | (apply FreshV.alloc TYok; exact rfl; exact rfl; exact rfl; exact rfl) | (apply FreshV.lit TYok; (repeat (first | exact EvR.nil | apply EvR.cons Ev.auto)); exact rfl; exact rfl; exact rfl; exact rfl; exact rfl; exact rfl; exact rfl; exact rfl; exact rfl) | (apply FreshV.box; exact Ev.auto; exact rfl; exact rfl; exact rfl)); exact rfl; exact rfl; exact rfl) | (apply LexS.s; exact rfl; exact rfl; (apply StoreV.mk TYok; exact Ev.auto; exact Ev.auto; exact rfl; exact rfl; exact rfl; exact rfl; exact rfl)) | ((first | apply LexS.u | (apply LexS.g; exact rfl; exact rfl) | (apply LexS.gq; exact rfl; exact rfl)); (repeat (first | (apply NB.cons; exact rfl) | exact NB.nil rfl)); (first | exact QX.B TYok | exact QX.Len TYok | exact QX.Idx TYok | exact QX.Ext TYok | exact QX.Build TYok | exact QCd (w0)); exact rfl; exact rfl; exact rfl) | (refine W.drawS (id := 16) [0, 0, 3, 7, 15, 31, 0, 0, 0, 384, 896, 0, 4031, 8191, 16383, 32767, 65535, 131071, 131071, 0, 786431, 2097151] [[0], [11], [62, 63], [64], [65], [66], [2], [0], [11], [69, 70], [71], [1], [72, 73], [68, 74], [75], [67, 76], [77], [61], [61], [], [12, 78], [79]] [(20, (12, ?_)), (19, (12, ?_))] [(20, 12), (19, 12)] mixed (by kernel_rfl) rfl ?_; rotate_left 2) | (refine W.condA (ht := fun hb => ?_) (hf := fun hb => ?_) <;> (try simp at hb) <;> (try (exfalso; omega))))
    apply W.loopP (σ := Nat) 96 [0, 1, 2, 6, 10] (fun k => k ≤ n) (fun k => [(11, vI k)]) (fun k => [(6, ⟨31, 4, [[.int .i64 0, .slnil, .int .i64 0, .slnil]]⟩), (10, ⟨31, 4, [encQ (vsum L d l k)]⟩)]) (fun k => n - k) (0)
    case hp => repeat (first | exact Pick.nil | apply Pick.cons rfl)
    case h0 =>
      refine ⟨by omega, ?_⟩
      exact Le.auto
    case round =>
      rintro k gk
      apply W.norm (by repeat (first | exact App.nil | apply App.cons))
      by_cases hk : k < l.length
      case neg =>
        obtain rfl : k = n := by omega
        rcases he with ⟨rfl, rfl, rfl⟩ | ⟨rfl, h3, rfl, hno⟩
        · generalize vsum L d l l.length = A at *
          repeat' (first | ((first | apply U_ | (apply Ug_; exact rfl; exact rfl) | (apply Ugq_; exact rfl; exact rfl)); (first | exact QX.B TYok | exact QX.Len TYok | exact QX.Idx TYok | exact QX.Ext TYok | exact QX.Build TYok); exact rfl) | refine SX.Alloc TYok (h := ?_) | refine SX.Store TYok (h := ?_) | refine SC ?_ | refine SG ?_ | apply LexS.nil | (apply LexS.f; exact rfl; (first | (apply FreshV.alloc TYok; exact rfl; exact rfl; exact rfl; exact rfl) | (apply FreshV.lit TYok; (repeat (first | exact EvR.nil | apply EvR.cons Ev.auto)); exact rfl; exact rfl; exact rfl; exact rfl; exact rfl; exact rfl; exact rfl; exact rfl; exact rfl) | (apply FreshV.box; exact Ev.auto; exact rfl; exact rfl; exact rfl)); exact rfl; exact rfl; exact rfl) | (apply LexS.s; exact rfl; exact rfl; (apply StoreV.mk TYok; exact Ev.auto; exact Ev.auto; exact rfl; exact rfl; exact rfl; exact rfl; exact rfl)) | ((first | apply LexS.u | (apply LexS.g; exact rfl; exact rfl) | (apply LexS.gq; exact rfl; exact rfl)); (repeat (first | (apply NB.cons; exact rfl) | exact NB.nil rfl)); (first | exact QX.B TYok | exact QX.Len TYok | exact QX.Idx TYok | exact QX.Ext TYok | exact QX.Build TYok); exact rfl; exact rfl; exact rfl) | (refine W.drawS (id := 16) [0, 0, 3, 7, 15, 31, 0, 0, 0, 384, 896, 0, 4031, 8191, 16383, 32767, 65535, 131071, 131071, 0, 786431, 2097151] [[0], [11], [62, 63], [64], [65], [66], [2], [0], [11], [69, 70], [71], [1], [72, 73], [68, 74], [75], [67, 76], [77], [61], [61], [], [12, 78], [79]] [(20, (12, ?_)), (19, (12, ?_))] [(20, 12), (19, 12)] mixed (by kernel_rfl) rfl ?_; rotate_left 2) | (refine W.condA (ht := fun hb => ?_) (hf := fun hb => ?_) <;> (try simp at hb) <;> (try (exfalso; omega))))
          all_goals first
            | exact FinM.ret ResM.auto
            | (exfalso; omega)
            | trace_state
        · exact absurd h3 hk
      obtain ⟨hy, tb, tm⟩ := hv.term_bd hk
      have hm := nth_mem hk
      have f1 := fy.2 _ hm
      have y1 := hyr k hk
      have w1 := qwhole_ok (nth l k).amt (by unfold i64B; omega)
      have oy := hv.fk.1 (yrI d (nth l k)).toNat (by omega)
      obtain ⟨ov, ev⟩ := Fq.of_val oy.1
      have m1 := qmul_yes _ _ (okF_int (n := (nth l k).amt) (by unfold i64B; omega)) ov tm
      rw [show zF (nth L (yrI d (nth l k)).toNat).val = fqV (nth L (yrI d (nth l k)).toNat) from (congrArg fqV ev).symm] at m1
      have et : ((nth l k).amt : Rat) * (nth L (yrI d (nth l k)).toNat).val = term L d (nth l k) := rfl
      rw [et] at m1
      have oS := okS k gk
      have oT := bd_ok tb (by omega)
      clear et tm tb ev ov oy
      by_cases hk2 : k < n
      · have a1 := qadd_yes _ _ oS oT (hu k hk2)
        have e1 : vsum L d l (k + 1) = vsum L d l k + term L d (nth l k) := rfl
        rw [← e1] at a1
        clear e1
        generalize hS : vsum L d l k = S at *
        generalize hT : term L d (nth l k) = T at *
        generalize hB : vsum L d l (k + 1) = B at *
        generalize yrI d (nth l k) = Y at *
        repeat' (first | ((first | apply U_ | (apply Ug_; exact rfl; exact rfl) | (apply Ugq_; exact rfl; exact rfl)); (first | exact QX.B TYok | exact QX.Len TYok | exact QX.Idx TYok | exact QX.Ext TYok | exact QX.Build TYok | exact QCd (y1) | exact QCd (w1) | exact QCd (m1) | exact QCd (a1)); exact rfl) | refine SX.Alloc TYok (h := ?_) | refine SX.Store TYok (h := ?_) | refine SC ?_ | refine SG ?_ | apply LexS.nil | (apply LexS.f; exact rfl; (first | (apply FreshV.alloc TYok; exact rfl; exact rfl; exact rfl; exact rfl) | (apply FreshV.lit TYok; (repeat (first | exact EvR.nil | apply EvR.cons Ev.auto)); exact rfl; exact rfl; exact rfl; exact rfl; exact rfl; exact rfl; exact rfl; exact rfl; exact rfl) | (apply FreshV.box; exact Ev.auto; exact rfl; exact rfl; exact rfl)); exact rfl; exact rfl; exact rfl) | (apply LexS.s; exact rfl; exact rfl; (apply StoreV.mk TYok; exact Ev.auto; exact Ev.auto; exact rfl; exact rfl; exact rfl; exact rfl; exact rfl)) | ((first | apply LexS.u | (apply LexS.g; exact rfl; exact rfl) | (apply LexS.gq; exact rfl; exact rfl)); (repeat (first | (apply NB.cons; exact rfl) | exact NB.nil rfl)); (first | exact QX.B TYok | exact QX.Len TYok | exact QX.Idx TYok | exact QX.Ext TYok | exact QX.Build TYok | exact QCd (y1) | exact QCd (w1) | exact QCd (m1) | exact QCd (a1)); exact rfl; exact rfl; exact rfl) | (refine W.drawS (id := 16) [0, 0, 3, 7, 15, 31, 0, 0, 0, 384, 896, 0, 4031, 8191, 16383, 32767, 65535, 131071, 131071, 0, 786431, 2097151] [[0], [11], [62, 63], [64], [65], [66], [2], [0], [11], [69, 70], [71], [1], [72, 73], [68, 74], [75], [67, 76], [77], [61], [61], [], [12, 78], [79]] [(20, (12, ?_)), (19, (12, ?_))] [(20, 12), (19, 12)] mixed (by kernel_rfl) rfl ?_; rotate_left 2) | (refine W.condA (ht := fun hb => ?_) (hf := fun hb => ?_) <;> (try simp at hb) <;> (try (exfalso; omega))))
        all_goals first
          | (refine ⟨k + 1, by omega, ?_, by omega⟩; (try dsimp only); rw [hB]; exact Le.auto)
          | trace_state
      · obtain rfl : k = n := by omega
        rcases he with ⟨rfl, h3, rfl⟩ | ⟨rfl, h3, rfl, hno⟩
        · omega
        · have a1 := qadd_no _ _ oS oT hno
          generalize hS : vsum L d l k = S at *
          generalize hT : term L d (nth l k) = T at *
          generalize yrI d (nth l k) = Y at *
          repeat' (first | ((first | apply U_ | (apply Ug_; exact rfl; exact rfl) | (apply Ugq_; exact rfl; exact rfl)); (first | exact QX.B TYok | exact QX.Len TYok | exact QX.Idx TYok | exact QX.Ext TYok | exact QX.Build TYok | exact QCd (y1) | exact QCd (w1) | exact QCd (m1) | exact QCd (a1)); exact rfl) | refine SX.Alloc TYok (h := ?_) | refine SX.Store TYok (h := ?_) | refine SC ?_ | refine SG ?_ | apply LexS.nil | (apply LexS.f; exact rfl; (first | (apply FreshV.alloc TYok; exact rfl; exact rfl; exact rfl; exact rfl) | (apply FreshV.lit TYok; (repeat (first | exact EvR.nil | apply EvR.cons Ev.auto)); exact rfl; exact rfl; exact rfl; exact rfl; exact rfl; exact rfl; exact rfl; exact rfl; exact rfl) | (apply FreshV.box; exact Ev.auto; exact rfl; exact rfl; exact rfl)); exact rfl; exact rfl; exact rfl) | (apply LexS.s; exact rfl; exact rfl; (apply StoreV.mk TYok; exact Ev.auto; exact Ev.auto; exact rfl; exact rfl; exact rfl; exact rfl; exact rfl)) | ((first | apply LexS.u | (apply LexS.g; exact rfl; exact rfl) | (apply LexS.gq; exact rfl; exact rfl)); (repeat (first | (apply NB.cons; exact rfl) | exact NB.nil rfl)); (first | exact QX.B TYok | exact QX.Len TYok | exact QX.Idx TYok | exact QX.Ext TYok | exact QX.Build TYok | exact QCd (y1) | exact QCd (w1) | exact QCd (m1) | exact QCd (a1)); exact rfl; exact rfl; exact rfl) | (refine W.drawS (id := 16) [0, 0, 3, 7, 15, 31, 0, 0, 0, 384, 896, 0, 4031, 8191, 16383, 32767, 65535, 131071, 131071, 0, 786431, 2097151] [[0], [11], [62, 63], [64], [65], [66], [2], [0], [11], [69, 70], [71], [1], [72, 73], [68, 74], [75], [67, 76], [77], [61], [61], [], [12, 78], [79]] [(20, (12, ?_)), (19, (12, ?_))] [(20, 12), (19, 12)] mixed (by kernel_rfl) rfl ?_; rotate_left 2) | (refine W.condA (ht := fun hb => ?_) (hf := fun hb => ?_) <;> (try simp at hb) <;> (try (exfalso; omega))))
          all_goals first
            | exact FinM.ret (ResM.cell rfl rfl rfl rfl zeroSubF (ResM.tmp rfl rfl PSub.rfl' ResM.nil))
            | trace_state
end
end
end Go.Proofs.Ytgpcmgjdkefdjaa
end
section
set_option linter.unusedVariables false
set_option linter.unusedSimpArgs false
set_option maxHeartbeats 8000000
namespace Go.Proofs.Ytgpcmgjdkefdjaa
open Lf Go
attribute [local irreducible] PureOp EffOp Ev RG W Then InBlock Lf.Fin nth App InitE Pick SubE EvL EvD EvP EvR ResL Lf.Lex SubR SubBR RA RAll EvC FinO FinM ResM ResD FinS val pw digs trimL
section
theorem least_ex {p : Nat → Prop} : ∀ n, p n → ∃ j, p j ∧ ∀ i, i < j → ¬ p i := by
  intro n
  induction n using Nat.strongRecOn with
  | ind n ih =>
    intro h
    by_cases k : ∃ i, i < n ∧ p i
    · obtain ⟨i, h1, h2⟩ := k
      exact ih i h1 h2
    · exact ⟨n, h, fun i hi hp => k ⟨i, hi, hp⟩⟩
def addsOk (L : List Fq) (d : Int) (l : List Fl) : Prop := ∀ j, j < l.length → addOk (vsum L d l j) (term L d (nth l j))
open Classical in
noncomputable def valE (l : List Fl) (d : Int) (L : List Fq) : Int :=
  if ¬ (flowsB l d = true ∧ FOk L) then 1 else if (l.any fun f => decide (f.day < d)) = true then 20 else if (l.any fun f => decide ((L.length : Int) ≤ yrI d f)) = true then 3 else if addsOk L d l then 0 else 6
open Classical in
noncomputable def valV (l : List Fl) (d : Int) (L : List Fq) : PV := if valE l d L = 0 then zF (vsum L d l l.length) else zF0
theorem VIn.mk' {l : List Fl} {d : Int} {L : List Fq} (h : flowsB l d = true ∧ FOk L) (hf : fewF L) (h1 : ¬ (l.any fun f => decide (f.day < d)) = true) (h2 : ¬ (l.any fun f => decide ((L.length : Int) ≤ yrI d f)) = true) : VIn l d L := by
  rw [Bool.not_eq_true] at h1 h2
  refine ⟨h.1, h.2, hf, fun f hm => ?_, fun f hm => ?_⟩
  · have := List.any_eq_false.1 h1 f hm
    simp only [decide_eq_true_iff] at this
    omega
  · have := List.any_eq_false.1 h2 f hm
    simp only [decide_eq_true_iff] at this
    omega
theorem valE_zero {l : List Fl} {d : Int} {L : List Fq} (hf : fewF L) (h : valE l d L = 0) : VIn l d L ∧ addsOk L d l ∧ okF (vsum L d l l.length) := by
  unfold valE at h
  split at h
  · cases h
  · rename_i h1
    split at h
    · cases h
    · rename_i h2
      split at h
      · cases h
      · rename_i h3
        split at h
        · rename_i h4
          have hv := VIn.mk' (Classical.not_not.1 h1) hf h2 h3
          exact ⟨hv, h4, vsum_ok hv (Nat.le_refl _) h4 _ (Nat.le_refl _)⟩
        · cases h
theorem valE_of {l : List Fl} {d : Int} {L : List Fq} (hv : VIn l d L) : valE l d L = 0 ∨ valE l d L = 6 := by
  unfold valE
  rw [if_neg (fun q => q ⟨hv.fl, hv.fk⟩), if_neg, if_neg]
  · split
    · exact .inl rfl
    · exact .inr rfl
  · rw [Bool.not_eq_true]
    exact List.any_eq_false.2 fun x hx => by have := hv.late x hx; simp only [decide_eq_true_iff]; omega
  · rw [Bool.not_eq_true]
    exact List.any_eq_false.2 fun x hx => by have := hv.early x hx; simp only [decide_eq_true_iff]; omega
theorem valE_ok {l : List Fl} {d : Int} {L : List Fq} (hv : VIn l d L) (ha : addsOk L d l) : valE l d L = 0 := by
  unfold valE
  rw [if_neg (fun q => q ⟨hv.fl, hv.fk⟩), if_neg, if_neg, if_pos ha]
  · rw [Bool.not_eq_true]
    exact List.any_eq_false.2 fun x hx => by have := hv.late x hx; simp only [decide_eq_true_iff]; omega
  · rw [Bool.not_eq_true]
    exact List.any_eq_false.2 fun x hx => by have := hv.early x hx; simp only [decide_eq_true_iff]; omega
theorem value_both (l : List Fl) (d : Int) (L : List Fq) (hl : l.length ≤ 9223372036854775807) (hL : L.length ≤ 9223372036854775807) (hq : ∀ q ∈ L, FqOk q) (hf : fewF L) :
    ACalls Try.prog 10 [slW l, cI d, slF L] (.tup [valV l d L, cI (valE l d L)]) ∧ ACalls Try.prog 11 [slW l, cI d, slF L] (.tup [valV l d L, cI (valE l d L)]) := by
  have hV : valE l d L ≠ 0 → valV l d L = zF0 := fun h => if_neg h
  by_cases h1 : flowsB l d = true ∧ FOk L
  case neg =>
    have e : valE l d L = 1 := if_pos h1
    rw [hV (by rw [e]; decide), e]
    exact ⟨value_arg l d L hl hL hq h1, rvalue_arg l d L hl hL hq h1⟩
  by_cases h2 : (l.any fun f => decide (f.day < d)) = true
  · have e : valE l d L = 20 := by unfold valE; rw [if_neg (fun q => q h1), if_pos h2]
    rw [hV (by rw [e]; decide), e]
    exact ⟨value_early l d L hl hL hq h1.1 h1.2 h2, rvalue_early l d L hl hL hq h1.1 h1.2 h2⟩
  have h2' := Bool.not_eq_true _ ▸ h2
  by_cases h3 : (l.any fun f => decide ((L.length : Int) ≤ yrI d f)) = true
  · have e : valE l d L = 3 := by unfold valE; rw [if_neg (fun q => q h1), if_neg h2, if_pos h3]
    rw [hV (by rw [e]; decide), e]
    exact ⟨value_late l d L hl hL hq h1.1 h1.2 (by simpa using h2) h3, rvalue_late l d L hl hL hq h1.1 h1.2 (by simpa using h2) h3⟩
  have hv := VIn.mk' h1 hf h2 h3
  by_cases h4 : addsOk L d l
  · have e := valE_ok hv h4
    have eV : valV l d L = zF (vsum L d l l.length) := if_pos e
    rw [e, eV]
    exact ⟨value_walk l d L hv hq l.length (Nat.le_refl _) h4 0 _ (.inl ⟨rfl, rfl, rfl⟩), rvalue_walk l d L hv hq l.length (Nat.le_refl _) h4 0 _ (.inl ⟨rfl, rfl, rfl⟩)⟩
  · have e : valE l d L = 6 := by
      rcases valE_of hv with q | q
      · exact absurd (valE_zero hf q).2.1 h4
      · exact q
    obtain ⟨j, hj⟩ : ∃ j, j < l.length ∧ ¬ addOk (vsum L d l j) (term L d (nth l j)) := by
      rcases Classical.em (∃ j, j < l.length ∧ ¬ addOk (vsum L d l j) (term L d (nth l j))) with w | w
      · exact w
      · exact absurd (fun j hj => Classical.not_not.1 fun q => w ⟨j, hj, q⟩) h4
    obtain ⟨n, ⟨n1, n2⟩, n3⟩ := least_ex (p := fun j => j < l.length ∧ ¬ addOk (vsum L d l j) (term L d (nth l j))) j hj
    have hu : ∀ j, j < n → addOk (vsum L d l j) (term L d (nth l j)) := fun j hj => Classical.not_not.1 fun q => n3 j hj ⟨by omega, q⟩
    rw [hV (by rw [e]; decide), e]
    exact ⟨value_walk l d L hv hq n (by omega) hu 6 _ (.inr ⟨rfl, n1, rfl, n2⟩), rvalue_walk l d L hv hq n (by omega) hu 6 _ (.inr ⟨rfl, n1, rfl, n2⟩)⟩
/-- what both return is a fraction's form of few digits -/
theorem valV_form (l : List Fl) (d : Int) (L : List Fq) (hf : fewF L) : ∃ s a s' a', valV l d L = fB s a s' a' ∧ a.length ≤ 1000000 ∧ a'.length ≤ 1000000 := by
  by_cases h : valE l d L = 0
  · have o := (valE_zero hf h).2.2
    exact ⟨_, _, _, _, if_pos h, by have := num_len o.1; omega, by have := num_len o.2; omega⟩
  · exact ⟨0, [], 0, [], if_neg h, by decide, by decide⟩
theorem same_any (s : Int) (l : List Int) (s' : Int) (l' : List Int) (hl : l.length ≤ 1000000) (hl' : l'.length ≤ 1000000) : ACalls Try.prog 14 [fB s l s' l', fB s l s' l'] (.pv (cB true)) := by
  have s1 := sameBig_ok s s l l hl hl
  have s2 := sameBig_ok s' s' l' l' hl' hl'
  rw [decide_eq_true rfl, decide_eq_true rfl, Bool.and_self] at s1 s2
  refine ACalls.of_W (qs := [cB true]) [4] 17 Try.func14 (by kernel_rfl) rfl rfl rfl fun G => ?_
  refine W.initA (hw := ?_)
  repeat' (first | ((first | apply U_ | (apply Ug_; exact rfl; exact rfl) | (apply Ugq_; exact rfl; exact rfl)); (first | exact QX.B TYok | exact QCd (s1) | exact QCd (s2)); exact rfl) | refine SX.Box TYok (h := ?_) | refine SC ?_ | refine SG ?_ | (refine W.condA (ht := fun hb => ?_) (hf := fun hb => ?_) <;> (try simp at hb) <;> (try (exfalso; omega))))
  all_goals exact Fin.ret ResL.auto
theorem fl_spec (r : Rat) : ((quoZ r.num r.den : Int) : Rat) ≤ r ∧ r < ((quoZ r.num r.den + 1 : Int) : Rat) := by
  have hd := den_pos r
  have h1 := quo_rem r.num r.den
  have h2 := (rem_rng (x := r.num) (y := r.den) (by omega)).1 hd
  generalize quoZ r.num r.den = q at *
  generalize remZ r.num r.den = m at *
  constructor
  · rw [Rat.le_iff]
    show q * (r.den : Int) ≤ r.num * 1
    rw [Int.mul_one, h1, Int.mul_comm q]
    omega
  · rw [Rat.lt_iff]
    show r.num * 1 < (q + 1) * (r.den : Int)
    rw [Int.mul_one, h1, Int.add_mul, Int.mul_comm q]
    omega
def ceilR (f : Rat) : Int := if ((quoZ f.num f.den : Int) : Rat) < f then quoZ f.num f.den + 1 else quoZ f.num f.den
def goodB (f : Rat) : Bool := decide (0 ≤ ceilR f) && decide (ceilR f ≤ 1000000000000000)
attribute [local irreducible] sgn mag gcdZ quoZ remZ fullZ fullE
theorem good_in {f : Rat} (h : goodB f = true) : i64B (quoZ f.num f.den) ∧ quoZ f.num f.den < 9223372036854775807 ∧ (0 ≤ ceilR f ∧ ceilR f ≤ 1000000000000000) := by
  unfold goodB at h
  rw [Bool.and_eq_true, decide_eq_true_iff, decide_eq_true_iff] at h
  have h2 := h
  unfold ceilR at h2
  unfold i64B
  split at h2 <;> omega
theorem up_ok (f : Rat) (o : okF f) : ∃ n, ACalls Try.prog 36 [zF f] (.tup [cI n, cB (goodB f)]) ∧ (goodB f = true → n = ceilR f) := by
  have f1 := floor_ok f o
  have oz := okZ_quo (x := f.num) o.1 (den_ne f)
  have i1 := intZ_ok _ oz
  have hin := good_in (f := f)
  have hg : goodB f = (decide (0 ≤ ceilR f) && decide (ceilR f ≤ 1000000000000000)) := rfl
  have hc : ceilR f = if ((quoZ f.num f.den : Int) : Rat) < f then quoZ f.num f.den + 1 else quoZ f.num f.den := rfl
  have hlt := cmpR_lt ((quoZ f.num f.den : Int) : Rat) f
  by_cases hi : i64B (quoZ f.num f.den)
  case neg =>
    have e : goodB f = false := by
      rw [Bool.eq_false_iff]
      exact fun q => hi (hin q).1
    rw [show intV (quoZ f.num f.den) = 0 from if_neg hi, decide_eq_false hi] at i1
    rw [e]
    refine ⟨0, ?_, fun q => by cases q⟩
    clear hin hg hc hlt e
    generalize quoZ f.num f.den = x at *
    refine ACalls.of_W (qs := [cI 0, cB false]) [2, 3] 28 Try.func36 (by kernel_rfl) rfl rfl rfl fun G => ?_
    refine W.initA (hw := ?_)
    repeat' (first | ((first | apply U_ | (apply Ug_; exact rfl; exact rfl) | (apply Ugq_; exact rfl; exact rfl) | apply Lex.u | (apply Lex.g; exact rfl; exact rfl) | (apply Lex.gq; exact rfl; exact rfl)); (first | exact QX.B TYok | exact QX.Ext TYok | exact QCd (f1) | exact QCd (i1)); exact rfl) | refine SX.Box TYok (h := ?_) | refine SC ?_ | refine SG ?_ | (apply W.draw2 (id := 4) [0, 1, 0, 7, 15] [[4], [14], [1], [15, 16], [17]] 5 [(14, 16), (15, 16384), (16, 2), (17, 98304), (18, 131072)] mixed (by kernel_rfl) rfl rfl) | (refine W.condA (ht := fun hb => ?_) (hf := fun hb => ?_) <;> (try simp at hb) <;> (try (exfalso; omega))))
    all_goals first
      | exact Fin.ret ResL.auto
      | trace_state
  have w1 := whole_ok _ hi
  have c1 := fcmp_ok ((quoZ f.num f.den : Int) : Rat) f (okF_int hi) o
  rw [show intV (quoZ f.num f.den) = quoZ f.num f.den from if_pos hi, decide_eq_true hi] at i1
  by_cases h1 : ((quoZ f.num f.den : Int) : Rat) < f
  · have y := hlt.2 h1
    rw [if_pos h1] at hc
    clear hlt
    generalize hCC : cmpR ((quoZ f.num f.den : Int) : Rat) f = C at *
    by_cases hm : quoZ f.num f.den < 9223372036854775807
    · refine ⟨quoZ f.num f.den + 1, ?_, fun _ => hc.symm⟩
      rw [hg, hc]
      unfold i64B at hi
      clear hin hc hg hCC h1
      generalize ((quoZ f.num f.den : Int) : Rat) = X at *
      generalize quoZ f.num f.den = x at *
      refine ACalls.of_W (qs := [cI (x + 1), cB (decide (0 ≤ x + 1) && decide (x + 1 ≤ 1000000000000000))]) [2, 3] 28 Try.func36 (by kernel_rfl) rfl rfl rfl fun G => ?_
      refine W.initA (hw := ?_)
      repeat' (first | ((first | apply U_ | (apply Ug_; exact rfl; exact rfl) | (apply Ugq_; exact rfl; exact rfl) | apply Lex.u | (apply Lex.g; exact rfl; exact rfl) | (apply Lex.gq; exact rfl; exact rfl)); (first | exact QX.B TYok | exact QX.Ext TYok | exact QCd (f1) | exact QCd (i1) | exact QCd (w1) | exact QCd (c1)); exact rfl) | refine SX.Box TYok (h := ?_) | refine SC ?_ | refine SG ?_ | (apply W.draw2 (id := 4) [0, 1, 0, 7, 15] [[4], [14], [1], [15, 16], [17]] 5 [(14, 16), (15, 16384), (16, 2), (17, 98304), (18, 131072)] mixed (by kernel_rfl) rfl rfl) | (refine W.condA (ht := fun hb => ?_) (hf := fun hb => ?_) <;> (try simp at hb) <;> (try (exfalso; omega))))
      all_goals first
        | exact Fin.ret ResL.auto
        | (exfalso; omega)
        | trace_state
    · have e : goodB f = false := by
        rw [Bool.eq_false_iff]
        exact fun q => hm (hin q).2.1
      rw [e]
      have ex : quoZ f.num f.den = 9223372036854775807 := by unfold i64B at hi; omega
      refine ⟨-9223372036854775808, ?_, fun q => by cases q⟩
      clear hin hc hg hCC h1 e
      rw [ex] at f1 i1 w1 c1
      generalize ((9223372036854775807 : Int) : Rat) = X at *
      refine ACalls.of_W (qs := [cI (-9223372036854775808), cB false]) [2, 3] 28 Try.func36 (by kernel_rfl) rfl rfl rfl fun G => ?_
      refine W.initA (hw := ?_)
      repeat' (first | ((first | apply U_ | (apply Ug_; exact rfl; exact rfl) | (apply Ugq_; exact rfl; exact rfl) | apply Lex.u | (apply Lex.g; exact rfl; exact rfl) | (apply Lex.gq; exact rfl; exact rfl)); (first | exact QX.B TYok | exact QX.Ext TYok | exact QCd (f1) | exact QCd (i1) | exact QCd (w1) | exact QCd (c1)); exact rfl) | refine SX.Box TYok (h := ?_) | refine SC ?_ | refine SG ?_ | (apply W.draw2 (id := 4) [0, 1, 0, 7, 15] [[4], [14], [1], [15, 16], [17]] 5 [(14, 16), (15, 16384), (16, 2), (17, 98304), (18, 131072)] mixed (by kernel_rfl) rfl rfl) | (refine W.condA (ht := fun hb => ?_) (hf := fun hb => ?_) <;> (try simp at hb) <;> (try (exfalso; omega))))
      all_goals first
        | exact Fin.ret ResL.auto
        | (exfalso; omega)
        | trace_state
  · have y : ¬ cmpR ((quoZ f.num f.den : Int) : Rat) f < 0 := fun q => h1 (hlt.1 q)
    rw [if_neg h1] at hc
    clear hlt
    generalize hCC : cmpR ((quoZ f.num f.den : Int) : Rat) f = C at *
    refine ⟨quoZ f.num f.den, ?_, fun _ => hc.symm⟩
    rw [hg, hc]
    clear hin hc hg hCC h1
    generalize ((quoZ f.num f.den : Int) : Rat) = X at *
    generalize quoZ f.num f.den = x at *
    refine ACalls.of_W (qs := [cI x, cB (decide (0 ≤ x) && decide (x ≤ 1000000000000000))]) [2, 3] 28 Try.func36 (by kernel_rfl) rfl rfl rfl fun G => ?_
    refine W.initA (hw := ?_)
    repeat' (first | ((first | apply U_ | (apply Ug_; exact rfl; exact rfl) | (apply Ugq_; exact rfl; exact rfl) | apply Lex.u | (apply Lex.g; exact rfl; exact rfl) | (apply Lex.gq; exact rfl; exact rfl)); (first | exact QX.B TYok | exact QX.Ext TYok | exact QCd (f1) | exact QCd (i1) | exact QCd (w1) | exact QCd (c1)); exact rfl) | refine SX.Box TYok (h := ?_) | refine SC ?_ | refine SG ?_ | (apply W.draw2 (id := 4) [0, 1, 0, 7, 15] [[4], [14], [1], [15, 16], [17]] 5 [(14, 16), (15, 16384), (16, 2), (17, 98304), (18, 131072)] mixed (by kernel_rfl) rfl rfl) | (refine W.condA (ht := fun hb => ?_) (hf := fun hb => ?_) <;> (try simp at hb) <;> (try (exfalso; omega))))
    all_goals first
      | exact Fin.ret ResL.auto
      | (exfalso; omega)
      | trace_state
end
end Go.Proofs.Ytgpcmgjdkefdjaa
end
section
set_option linter.unusedVariables false
set_option linter.unusedSimpArgs false
set_option maxHeartbeats 8000000
set_option linter.unusedSectionVars false
namespace Go.Proofs.Ytgpcmgjdkefdjaa
open Lf Go
attribute [local irreducible] PureOp EffOp Ev RG W Then InBlock Lf.Fin nth App InitE Pick SubE EvL EvD EvP EvR ResL Lf.Lex SubR SubBR RA RAll EvC FinO FinM ResM ResD FinS val pw digs trimL
section
abbrev encS (s : List Fq) : List Cell := [.sl (s.map encF)]
abbrev slS (S : List (List Fq)) : PV := .one (.sl (S.map encS))
abbrev slI' (l : List Int) : PV := .one (.sl (l.map Lf.encI))
structure SOk (S : List (List Fq)) : Prop where
  few : ∀ s ∈ S, fewF s
  len : ∀ s ∈ S, s.length ≤ 9223372036854775807
  ok : ∀ s ∈ S, ∀ q ∈ s, FqOk q
/-- the first scenario without a value -/
def allZero (l : List Fl) (d : Int) (S : List (List Fq)) (n : Nat) : Prop := ∀ j, j < n → valE l d (nth S j) = 0
noncomputable def vS (l : List Fl) (d : Int) (s : List Fq) : Rat := vsum s d l l.length
noncomputable def refN (f : Rat) : Int := if ((intV (quoZ f.num f.den) : Int) : Rat) = f then intV (quoZ f.num f.den) else IntKind.i64.wrap (intV (quoZ f.num f.den) + 1)
theorem intV_i64 (x : Int) : i64B (intV x) := by
  unfold intV
  split
  · assumption
  · unfold i64B; omega
theorem refN_good {f : Rat} (h : goodB f = true) : refN f = ceilR f ∧ i64B (quoZ f.num f.den) := by
  obtain ⟨h1, h2, h3⟩ := good_in h
  obtain ⟨f1, f2⟩ := fl_spec f
  refine ⟨?_, h1⟩
  unfold refN ceilR
  rw [show intV (quoZ f.num f.den) = quoZ f.num f.den from if_pos h1]
  by_cases e : ((quoZ f.num f.den : Int) : Rat) = f
  · rw [if_pos e, if_neg (by grind)]
  · rw [if_neg e, if_pos (by grind), i64_id (by unfold i64B at h1; omega)]
theorem refN_bad {f : Rat} (h : goodB f = false) : ((!decide (i64B (quoZ f.num f.den)) || decide (refN f < 0)) || decide (1000000000000000 < refN f)) = true := by
  by_cases hi : i64B (quoZ f.num f.den)
  · obtain ⟨f1, f2⟩ := fl_spec f
    have hg : ¬ (0 ≤ ceilR f ∧ ceilR f ≤ 1000000000000000) := fun q => by
      have : goodB f = true := by unfold goodB; rw [decide_eq_true q.1, decide_eq_true q.2]; rfl
      rw [h] at this; cases this
    have hr : refN f < 0 ∨ 1000000000000000 < refN f := by
      unfold refN
      rw [show intV (quoZ f.num f.den) = quoZ f.num f.den from if_pos hi]
      unfold ceilR at hg
      by_cases e : ((quoZ f.num f.den : Int) : Rat) = f
      · rw [if_pos e]
        rw [if_neg (by grind)] at hg
        omega
      · rw [if_neg e]
        rw [if_pos (by grind)] at hg
        rw [IntKind.wrap_i64]
        unfold i64B at hi
        omega
    rcases hr with q | q
    · rw [decide_eq_true q]; simp
    · rw [decide_eq_true q]; simp
  · rw [decide_eq_false hi]; rfl
attribute [local irreducible] sgn mag gcdZ quoZ remZ fullZ fullE
section
variable (l : List Fl) (d : Int) (S : List (List Fq)) (hl : l.length ≤ 9223372036854775807) (hS : S.length ≤ 9223372036854775807) (hok : SOk S)
include hl hS hok
theorem cost_arg (h : ¬ (1 ≤ S.length ∧ S.length ≤ 20)) : ACalls Try.prog 12 [slW l, cI d, slS S] (.tup [slI' [], cI 1]) ∧ ACalls Try.prog 13 [slW l, cI d, slS S] (.tup [slI' [], cI 1]) := by
  have hz : S.length = 0 ∨ 20 < S.length := by omega
  constructor
  case left =>
    refine ACalls.of_W (qs := [slI' [], cI 1]) [6, 7] 66 Try.func12 (by kernel_rfl) rfl rfl rfl fun G => ?_
    refine W.initA (hw := ?_)
    repeat' (first | (exfalso; omega) | ((first | apply U_ | (apply Ug_; exact rfl; exact rfl) | (apply Ugq_; exact rfl; exact rfl)); (first | exact QX.B TYok | exact QX.Len TYok | exact QX.Idx TYok | exact QX.Ext TYok); exact rfl) | refine SX.Alloc TYok (h := ?_) | refine SX.Store TYok (h := ?_) | refine SX.Lit TYok (h := ?_) | refine SX.App TYok (h := ?_) | refine SC ?_ | refine SG ?_ | (refine W.condA (ht := fun hb => ?_) (hf := fun hb => ?_) <;> (try simp at hb) <;> (try (exfalso; omega))))
    all_goals exact Fin.ret ResL.auto
  case right =>
    have hz' : ¬ S = [] ∧ (S.length : Int) ≤ 20 → False := fun q => by
      rcases hz with w | w
      · exact q.1 (List.length_eq_zero_iff.1 w)
      · omega
    refine ACalls.of_W (qs := [slI' [], cI 1]) [6, 7] 74 Try.func13 (by kernel_rfl) rfl rfl rfl fun G => ?_
    refine W.initA (hw := ?_)
    repeat' (first | (exfalso; omega) | ((first | apply U_ | (apply Ug_; exact rfl; exact rfl) | (apply Ugq_; exact rfl; exact rfl) | apply Lex.u | (apply Lex.g; exact rfl; exact rfl) | (apply Lex.gq; exact rfl; exact rfl)); (first | exact QX.B TYok | exact QX.Len TYok | exact QX.Idx TYok | exact QX.Ext TYok); exact rfl) | refine SX.Alloc TYok (h := ?_) | refine SX.Store TYok (h := ?_) | refine SX.Lit TYok (h := ?_) | refine SX.App TYok (h := ?_) | refine SC ?_ | (apply S_isnil TYok; exact rfl; exact rfl; exact rfl; exact Ev.auto; intro bn hnil) | refine SG ?_ | (apply W.draw2 (id := 12) [0, 1, 0, 7, 15] [[13], [48], [11], [49, 50], [51]] 5 [(48, 8192), (49, 281474976710656), (50, 2048), (51, 1688849860263936), (52, 2251799813685248)] mixed (by kernel_rfl) rfl rfl) | (refine W.condA (ht := fun hb => ?_) (hf := fun hb => ?_) <;> (try simp at hb) <;> (try (exfalso; first | exact hz' hb | omega))))
    all_goals first
      | exact Fin.ret ResL.auto
      | trace_state
theorem cost_fail (h : 1 ≤ S.length ∧ S.length ≤ 20) (n : Nat) (hn : n < S.length) (hz : allZero l d S n) (he : valE l d (nth S n) ≠ 0) : ACalls Try.prog 12 [slW l, cI d, slS S] (.tup [slI' [], cI (valE l d (nth S n))]) := by
  have hv := fun j (hj : j < S.length) => value_both l d (nth S j) hl (hok.len _ (nth_mem hj)) (hok.ok _ (nth_mem hj)) (hok.few _ (nth_mem hj))
  refine ACalls.of_W (qs := [slI' [], cI (valE l d (nth S n))]) [6, 7] 66 Try.func12 (by kernel_rfl) rfl rfl rfl fun G => ?_
  refine W.initA (hw := ?_)
  repeat' (first | ((first | apply U_ | (apply Ug_; exact rfl; exact rfl) | (apply Ugq_; exact rfl; exact rfl)); (first | exact QX.B TYok | exact QX.Len TYok | exact QX.Idx TYok | exact QX.Ext TYok); exact rfl) | refine SX.Alloc TYok (h := ?_) | refine SX.Store TYok (h := ?_) | refine SX.Lit TYok (h := ?_) | refine SX.App TYok (h := ?_) | refine SC ?_ | refine SG ?_ | (refine W.condA (ht := fun hb => ?_) (hf := fun hb => ?_) <;> (try simp at hb) <;> (try (exfalso; omega))))
  refine W.weaken (Le.nilOwn (t := 8) (n := 8) (E := 31) (sz := 4) rfl) ?_
  apply W.loopP (σ := Nat) 66 [0, 1, 26, 27] (fun k => k ≤ n) (fun k => [(28, vI k), (8, (True, .slc 8))]) (fun k => [(8, ⟨31, 4, ((S.take k).map (vS l d)).map encQ⟩)]) (fun k => n - k) (0)
  case hp => repeat (first | exact Pick.nil | apply Pick.cons rfl)
  case h0 =>
    refine ⟨by omega, ?_⟩
    exact Le.auto
  case round =>
    rintro k gk
    apply W.norm (by repeat (first | exact App.nil | apply App.cons))
    have v1 := (hv k (by omega)).1
    by_cases hk : k < n
    · have e0 := hz k hk
      have eV : valV l d (nth S k) = zF (vS l d (nth S k)) := if_pos e0
      rw [e0, eV] at v1
      have e1 : (S.take (k + 1)).map (vS l d) = (S.take k).map (vS l d) ++ [vS l d (nth S k)] := by rw [take_nth (by omega)]; simp
      have l1 : ((S.take k).map (vS l d)).length ≤ 20 := by simp; omega
      generalize (S.take k).map (vS l d) = M at *
      generalize vS l d (nth S k) = X at *
      repeat' (first | ((first | apply U_ | (apply Ug_; exact rfl; exact rfl) | (apply Ugq_; exact rfl; exact rfl)); (first | exact QX.B TYok | exact QX.Len TYok | exact QX.Idx TYok | exact QX.Ext TYok | exact QCd (v1)); exact rfl) | refine SX.Alloc TYok (h := ?_) | refine SX.Store TYok (h := ?_) | refine SX.Lit TYok (h := ?_) | refine SX.App TYok (h := ?_) | refine SC ?_ | refine SG ?_ | (refine W.condA (ht := fun hb => ?_) (hf := fun hb => ?_) <;> (try simp at hb) <;> (try (exfalso; omega))))
      all_goals first
        | (refine ⟨k + 1, by omega, ?_, by omega⟩
           (try dsimp only)
           rw [e1, List.map_append, List.map_cons, List.map_nil]
           exact Le.auto)
        | trace_state
    · obtain rfl : k = n := by omega
      obtain ⟨s0, a0, s1, a1, eV, _, _⟩ := valV_form l d (nth S k) (hok.few _ (nth_mem hn))
      rw [eV] at v1
      generalize valE l d (nth S k) = E at *
      repeat' (first | ((first | apply U_ | (apply Ug_; exact rfl; exact rfl) | (apply Ugq_; exact rfl; exact rfl)); (first | exact QX.B TYok | exact QX.Len TYok | exact QX.Idx TYok | exact QX.Ext TYok | exact QCd (v1)); exact rfl) | refine SX.Alloc TYok (h := ?_) | refine SX.Store TYok (h := ?_) | refine SX.Lit TYok (h := ?_) | refine SX.App TYok (h := ?_) | refine SC ?_ | refine SG ?_ | (refine W.condA (ht := fun hb => ?_) (hf := fun hb => ?_) <;> (try simp at hb) <;> (try (exfalso; omega))))
      all_goals first
        | exact Fin.ret ResL.auto
        | (exfalso; omega)
        | trace_state
theorem rcost_fail (h : 1 ≤ S.length ∧ S.length ≤ 20) (n : Nat) (hn : n < S.length) (hz : allZero l d S n) (he : valE l d (nth S n) ≠ 0) : ACalls Try.prog 13 [slW l, cI d, slS S] (.tup [slI' [], cI (valE l d (nth S n))]) := by
  have hv := fun j (hj : j < S.length) => value_both l d (nth S j) hl (hok.len _ (nth_mem hj)) (hok.ok _ (nth_mem hj)) (hok.few _ (nth_mem hj))
  have hne : S = [] ∨ 20 < (S.length : Int) → False := fun q => by
    rcases q with q | q
    · rw [q] at hn; simp at hn
    · omega
  refine ACalls.of_W (qs := [slI' [], cI (valE l d (nth S n))]) [6, 7] 74 Try.func13 (by kernel_rfl) rfl rfl rfl fun G => ?_
  refine W.initA (hw := ?_)
  repeat' (first | ((first | apply U_ | (apply Ug_; exact rfl; exact rfl) | (apply Ugq_; exact rfl; exact rfl) | apply Lex.u | (apply Lex.g; exact rfl; exact rfl) | (apply Lex.gq; exact rfl; exact rfl)); (first | exact QX.B TYok | exact QX.Len TYok | exact QX.Idx TYok | exact QX.Ext TYok); exact rfl) | refine SX.Alloc TYok (h := ?_) | refine SX.Store TYok (h := ?_) | refine SX.Lit TYok (h := ?_) | refine SX.App TYok (h := ?_) | refine SC ?_ | (apply S_isnil TYok; exact rfl; exact rfl; exact rfl; exact Ev.auto; intro bn hnil) | refine SG ?_ | (apply W.draw2 (id := 12) [0, 1, 0, 7, 15] [[13], [48], [11], [49, 50], [51]] 5 [(48, 8192), (49, 281474976710656), (50, 2048), (51, 1688849860263936), (52, 2251799813685248)] mixed (by kernel_rfl) rfl rfl) | (refine W.condA (ht := fun hb => ?_) (hf := fun hb => ?_) <;> (try simp at hb) <;> (try (exfalso; first | exact hne hb | omega))))
  refine W.weaken (Le.nilOwn (t := 8) (n := 8) (E := 3) (sz := 1) rfl) ?_
  apply W.loopP (σ := (Nat × Bool × List Int)) 74 [0, 1, 2] (fun z => z.1 ≤ n ∧ z.2.2.length = z.1) (fun z => [(10, vI z.1), (9, (True, .pv (cB z.2.1))), (8, (True, .slc 8))]) (fun z => [(8, ⟨3, 1, z.2.2.map Lf.encI⟩)]) (fun z => n - z.1) ((0, false, []))
  case hp => repeat (first | exact Pick.nil | apply Pick.cons rfl)
  case h0 =>
    refine ⟨⟨by omega, rfl⟩, ?_⟩
    exact Le.auto
  case round =>
    rintro ⟨k, B, M⟩ ⟨gk, gm⟩
    apply W.norm (by repeat (first | exact App.nil | apply App.cons))
    simp only at gk gm
    have v1 := (hv k (by omega)).2
    by_cases hk : k < n
    · have e0 := hz k hk
      have eV : valV l d (nth S k) = zF (vS l d (nth S k)) := if_pos e0
      rw [e0, eV] at v1
      have o : okF (vS l d (nth S k)) := (valE_zero (hok.few _ (nth_mem (show k < S.length by omega))) e0).2.2
      have f1 := qfloor_ok (vS l d (nth S k)) o
      have oz := okZ_quo (x := (vS l d (nth S k)).num) o.1 (den_ne (vS l d (nth S k)))
      have i1 := rint_ok _ oz
      have iv := intV_i64 (quoZ (vS l d (nth S k)).num (vS l d (nth S k)).den)
      have w1 := qwhole_ok _ iv
      have c1 := qcmp_ok _ _ (okF_int iv) o
      generalize vS l d (nth S k) = X at *
      generalize cmpR ((intV (quoZ X.num X.den) : Int) : Rat) X = C at *
      generalize ((intV (quoZ X.num X.den) : Int) : Rat) = Y at *
      generalize decide (i64B (quoZ X.num X.den)) = b at *
      generalize intV (quoZ X.num X.den) = v at *
      generalize quoZ X.num X.den = x at *
      have hm : M.length ≤ 20 := by omega
      by_cases hmax : v < 9223372036854775807
      · unfold i64B at iv
        repeat' (first | ((first | apply U_ | (apply Ug_; exact rfl; exact rfl) | (apply Ugq_; exact rfl; exact rfl) | apply Lex.u | (apply Lex.g; exact rfl; exact rfl) | (apply Lex.gq; exact rfl; exact rfl)); (first | exact QX.B TYok | exact QX.Len TYok | exact QX.Idx TYok | exact QX.Ext TYok | exact QCd (v1) | exact QCd (f1) | exact QCd (i1) | exact QCd (w1) | exact QCd (c1)); exact rfl) | refine SX.Alloc TYok (h := ?_) | refine SX.Store TYok (h := ?_) | refine SX.Lit TYok (h := ?_) | refine SX.App TYok (h := ?_) | refine SC ?_ | (apply S_isnil TYok; exact rfl; exact rfl; exact rfl; exact Ev.auto; intro bn hnil) | refine SG ?_ | (apply W.draw2 (id := 12) [0, 1, 0, 7, 15] [[13], [48], [11], [49, 50], [51]] 5 [(48, 8192), (49, 281474976710656), (50, 2048), (51, 1688849860263936), (52, 2251799813685248)] mixed (by kernel_rfl) rfl rfl) | (refine W.condA (ht := fun hb => ?_) (hf := fun hb => ?_) <;> (try simp at hb) <;> (try (exfalso; omega))))
        all_goals first
          | (refine ⟨(k + 1, (((B || !b) || decide (v + 1 < 0)) || decide (1000000000000000 < v + 1)), M ++ [v + 1]), ⟨by simp only; omega, by simp; omega⟩, ?_, by simp only; omega⟩
             simp only [List.map_append, List.map_cons, List.map_nil]
             exact Le.auto)
          | (refine ⟨(k + 1, (((B || !b) || decide (v < 0)) || decide (1000000000000000 < v)), M ++ [v]), ⟨by simp only; omega, by simp; omega⟩, ?_, by simp only; omega⟩
             simp only [List.map_append, List.map_cons, List.map_nil]
             exact Le.auto)
          | trace_state
      · repeat' (first | ((first | apply U_ | (apply Ug_; exact rfl; exact rfl) | (apply Ugq_; exact rfl; exact rfl) | apply Lex.u | (apply Lex.g; exact rfl; exact rfl) | (apply Lex.gq; exact rfl; exact rfl)); (first | exact QX.B TYok | exact QX.Len TYok | exact QX.Idx TYok | exact QX.Ext TYok | exact QCd (v1) | exact QCd (f1) | exact QCd (i1) | exact QCd (w1) | exact QCd (c1)); exact rfl) | refine SX.Alloc TYok (h := ?_) | refine SX.Store TYok (h := ?_) | refine SX.Lit TYok (h := ?_) | refine SX.App TYok (h := ?_) | refine SC ?_ | (apply S_isnil TYok; exact rfl; exact rfl; exact rfl; exact Ev.auto; intro bn hnil) | refine SG ?_ | (apply W.draw2 (id := 12) [0, 1, 0, 7, 15] [[13], [48], [11], [49, 50], [51]] 5 [(48, 8192), (49, 281474976710656), (50, 2048), (51, 1688849860263936), (52, 2251799813685248)] mixed (by kernel_rfl) rfl rfl) | (refine W.condA (ht := fun hb => ?_) (hf := fun hb => ?_) <;> (try simp at hb) <;> (try (exfalso; omega))))
        all_goals first
          | (refine ⟨(k + 1, (((B || !b) || decide (IntKind.i64.wrap (v + 1) < 0)) || decide (1000000000000000 < IntKind.i64.wrap (v + 1))), M ++ [IntKind.i64.wrap (v + 1)]), ⟨by simp only; omega, by simp; omega⟩, ?_, by simp only; omega⟩
             simp only [List.map_append, List.map_cons, List.map_nil]
             exact Le.auto)
          | (refine ⟨(k + 1, (((B || !b) || decide (v < 0)) || decide (1000000000000000 < v)), M ++ [v]), ⟨by simp only; omega, by simp; omega⟩, ?_, by simp only; omega⟩
             simp only [List.map_append, List.map_cons, List.map_nil]
             exact Le.auto)
          | trace_state
    · obtain rfl : k = n := by omega
      obtain ⟨s0, a0, s1, a1, eV, _, _⟩ := valV_form l d (nth S k) (hok.few _ (nth_mem hn))
      rw [eV] at v1
      generalize valE l d (nth S k) = E at *
      repeat' (first | ((first | apply U_ | (apply Ug_; exact rfl; exact rfl) | (apply Ugq_; exact rfl; exact rfl) | apply Lex.u | (apply Lex.g; exact rfl; exact rfl) | (apply Lex.gq; exact rfl; exact rfl)); (first | exact QX.B TYok | exact QX.Len TYok | exact QX.Idx TYok | exact QX.Ext TYok | exact QCd (v1)); exact rfl) | refine SX.Alloc TYok (h := ?_) | refine SX.Store TYok (h := ?_) | refine SX.Lit TYok (h := ?_) | refine SX.App TYok (h := ?_) | refine SC ?_ | (apply S_isnil TYok; exact rfl; exact rfl; exact rfl; exact Ev.auto; intro bn hnil) | refine SG ?_ | (apply W.draw2 (id := 12) [0, 1, 0, 7, 15] [[13], [48], [11], [49, 50], [51]] 5 [(48, 8192), (49, 281474976710656), (50, 2048), (51, 1688849860263936), (52, 2251799813685248)] mixed (by kernel_rfl) rfl rfl) | (refine W.condA (ht := fun hb => ?_) (hf := fun hb => ?_) <;> (try simp at hb) <;> (try (exfalso; omega))))
      all_goals first
        | exact Fin.ret ResL.auto
        | (exfalso; omega)
        | trace_state
theorem cost_walk (h : 1 ≤ S.length ∧ S.length ≤ 20) (hz : allZero l d S S.length) (n : Nat) (hn : n ≤ S.length) (hg : ∀ j, j < n → goodB (vS l d (nth S j)) = true) (V : List Int) (e : Int) (he : (e = 0 ∧ n = S.length ∧ V = (S.map (vS l d)).map ceilR) ∨ (e = 3 ∧ n < S.length ∧ goodB (vS l d (nth S n)) = false ∧ V = [])) :
    ACalls Try.prog 12 [slW l, cI d, slS S] (.tup [slI' V, cI e]) := by
  have hv := fun j (hj : j < S.length) => value_both l d (nth S j) hl (hok.len _ (nth_mem hj)) (hok.ok _ (nth_mem hj)) (hok.few _ (nth_mem hj))
  have ov := fun j (hj : j < S.length) => (valE_zero (hok.few _ (nth_mem hj)) (hz j hj)).2.2
  refine ACalls.of_W (qs := [slI' V, cI e]) [6, 7] 66 Try.func12 (by kernel_rfl) rfl rfl rfl fun G => ?_
  refine W.initA (hw := ?_)
  repeat' (first | ((first | apply U_ | (apply Ug_; exact rfl; exact rfl) | (apply Ugq_; exact rfl; exact rfl)); (first | exact QX.B TYok | exact QX.Len TYok | exact QX.Idx TYok | exact QX.Ext TYok); exact rfl) | refine SX.Alloc TYok (h := ?_) | refine SX.Store TYok (h := ?_) | refine SX.Lit TYok (h := ?_) | refine SX.App TYok (h := ?_) | refine SC ?_ | refine SG ?_ | (refine W.condA (ht := fun hb => ?_) (hf := fun hb => ?_) <;> (try simp at hb) <;> (try (exfalso; omega))))
  refine W.weaken (Le.nilOwn (t := 8) (n := 8) (E := 31) (sz := 4) rfl) ?_
  apply W.loopP (σ := Nat) 66 [0, 1, 26, 27] (fun k => k ≤ S.length) (fun k => [(28, vI k), (8, (True, .slc 8))]) (fun k => [(8, ⟨31, 4, ((S.take k).map (vS l d)).map encQ⟩)]) (fun k => S.length - k) (0)
  case hp => repeat (first | exact Pick.nil | apply Pick.cons rfl)
  case h0 =>
    refine ⟨by omega, ?_⟩
    exact Le.auto
  case round =>
    rintro k gk
    apply W.norm (by repeat (first | exact App.nil | apply App.cons))
    by_cases hk : k < S.length
    · have v1 := (hv k hk).1
      have e0 := hz k hk
      have eV : valV l d (nth S k) = zF (vS l d (nth S k)) := if_pos e0
      rw [e0, eV] at v1
      have e1 : (S.take (k + 1)).map (vS l d) = (S.take k).map (vS l d) ++ [vS l d (nth S k)] := by rw [take_nth (by omega)]; simp
      have l1 : ((S.take k).map (vS l d)).length ≤ 20 := by simp; omega
      generalize (S.take k).map (vS l d) = M at *
      generalize vS l d (nth S k) = X at *
      repeat' (first | ((first | apply U_ | (apply Ug_; exact rfl; exact rfl) | (apply Ugq_; exact rfl; exact rfl)); (first | exact QX.B TYok | exact QX.Len TYok | exact QX.Idx TYok | exact QX.Ext TYok | exact QCd (v1)); exact rfl) | refine SX.Alloc TYok (h := ?_) | refine SX.Store TYok (h := ?_) | refine SX.Lit TYok (h := ?_) | refine SX.App TYok (h := ?_) | refine SC ?_ | refine SG ?_ | (refine W.condA (ht := fun hb => ?_) (hf := fun hb => ?_) <;> (try simp at hb) <;> (try (exfalso; omega))))
      all_goals first
        | (refine ⟨k + 1, by omega, ?_, by omega⟩
           (try dsimp only)
           rw [e1, List.map_append, List.map_cons, List.map_nil]
           exact Le.auto)
        | trace_state
    obtain rfl : k = S.length := by omega
    rw [List.take_length]
    have lW : (S.map (vS l d)).length = S.length := by simp
    have nW : ∀ j, j < S.length → nth (S.map (vS l d)) j = vS l d (nth S j) := fun j hj => by
      rw [nth_eq (by simpa using hj), List.getElem_map, nth_eq hj]
    generalize S.map (vS l d) = WW at *
    repeat' (first | ((first | apply U_ | (apply Ug_; exact rfl; exact rfl) | (apply Ugq_; exact rfl; exact rfl)); (first | exact QX.B TYok | exact QX.Len TYok | exact QX.Idx TYok | exact QX.Ext TYok); exact rfl) | refine SX.Alloc TYok (h := ?_) | refine SX.Store TYok (h := ?_) | refine SX.Lit TYok (h := ?_) | refine SX.App TYok (h := ?_) | refine SC ?_ | refine SG ?_ | (refine W.condA (ht := fun hb => ?_) (hf := fun hb => ?_) <;> (try simp at hb) <;> (try (exfalso; omega))))
    refine W.weaken (Le.nilOwn (t := 13) (n := 13) (E := 3) (sz := 1) rfl) ?_
    apply W.loopP (σ := Nat) 66 [47, 48] (fun k => k ≤ n) (fun k => [(49, vI k), (13, (True, .slc 13))]) (fun k => [(8, ⟨31, 4, WW.map encQ⟩), (13, ⟨3, 1, ((WW.take k).map ceilR).map Lf.encI⟩)]) (fun k => n - k) (0)
    case hp => repeat (first | exact Pick.nil | apply Pick.cons rfl)
    case h0 =>
      refine ⟨by omega, ?_⟩
      exact Le.auto
    case round =>
      rintro k gk
      apply W.norm (by repeat (first | exact App.nil | apply App.cons))
      by_cases hk : k < S.length
      case neg =>
        obtain rfl : k = n := by omega
        rcases he with ⟨rfl, rfl, rfl⟩ | ⟨rfl, h3, _, rfl⟩
        · rw [← lW, List.take_length]
          repeat' (first | (refine W.weaken (Le.freeze1 (m := 13) rfl) ?_; apply W.region (id := 21)) | ((first | apply U_ | (apply Ug_; exact rfl; exact rfl) | (apply Ugq_; exact rfl; exact rfl)); (first | exact QX.B TYok | exact QX.Len TYok | exact QX.Idx TYok | exact QX.Ext TYok); exact rfl) | refine SX.Alloc TYok (h := ?_) | refine SX.Store TYok (h := ?_) | refine SX.Lit TYok (h := ?_) | refine SX.App TYok (h := ?_) | refine SC ?_ | refine SG ?_ | (refine W.condA (ht := fun hb => ?_) (hf := fun hb => ?_) <;> (try simp at hb) <;> (try (exfalso; omega))))
          all_goals first
            | exact Fin.ret ResL.auto
            | (exfalso; omega)
            | trace_state
        · exact absurd h3 hk
      have o := ov k hk
      obtain ⟨u, u1, u2⟩ := up_ok _ o
      have nk := nW k hk
      have hgk := hg k
      have e1 : (WW.take (k + 1)).map ceilR = (WW.take k).map ceilR ++ [ceilR (nth WW k)] := by rw [take_nth (by omega)]; simp
      have l1 : ((WW.take k).map ceilR).length ≤ 20 := by simp; omega
      rw [show vsum (nth S k) d l l.length = vS l d (nth S k) from rfl, ← nk] at u1 u2
      rw [← nk] at hgk
      generalize (WW.take k).map ceilR = M at *
      by_cases hk2 : k < n
      · rw [hgk hk2] at u1
        rw [u2 (hgk hk2)] at u1
        generalize ceilR (nth WW k) = c at *
        repeat' (first | ((first | apply U_ | (apply Ug_; exact rfl; exact rfl) | (apply Ugq_; exact rfl; exact rfl)); (first | exact QX.B TYok | exact QX.Len TYok | exact QX.Idx TYok | exact QX.Ext TYok | exact QCd (u1)); exact rfl) | refine SX.Alloc TYok (h := ?_) | refine SX.Store TYok (h := ?_) | refine SX.Lit TYok (h := ?_) | refine SX.App TYok (h := ?_) | refine SC ?_ | refine SG ?_ | (refine W.condA (ht := fun hb => ?_) (hf := fun hb => ?_) <;> (try simp at hb) <;> (try (exfalso; omega))))
        all_goals first
          | (refine ⟨k + 1, by omega, ?_, by omega⟩
             (try dsimp only)
             rw [e1, List.map_append, List.map_cons, List.map_nil]
             exact Le.auto)
          | trace_state
      · obtain rfl : k = n := by omega
        rcases he with ⟨_, h3, _⟩ | ⟨rfl, h3, hb3, rfl⟩
        · omega
        · rw [← nk] at hb3
          rw [hb3] at u1
          repeat' (first | ((first | apply U_ | (apply Ug_; exact rfl; exact rfl) | (apply Ugq_; exact rfl; exact rfl)); (first | exact QX.B TYok | exact QX.Len TYok | exact QX.Idx TYok | exact QX.Ext TYok | exact QCd (u1)); exact rfl) | refine SX.Alloc TYok (h := ?_) | refine SX.Store TYok (h := ?_) | refine SX.Lit TYok (h := ?_) | refine SX.App TYok (h := ?_) | refine SC ?_ | refine SG ?_ | (refine W.condA (ht := fun hb => ?_) (hf := fun hb => ?_) <;> (try simp at hb) <;> (try (exfalso; omega))))
          all_goals first
            | exact Fin.ret ResL.auto
            | (exfalso; omega)
            | trace_state
theorem rcost_walk (h : 1 ≤ S.length ∧ S.length ≤ 20) (hz : allZero l d S S.length) (V : List Int) (e : Int) (he : (e = 0 ∧ (∀ j, j < S.length → goodB (vS l d (nth S j)) = true) ∧ V = (S.map (vS l d)).map ceilR) ∨ (e = 3 ∧ (∃ j, j < S.length ∧ goodB (vS l d (nth S j)) = false) ∧ V = [])) :
    ACalls Try.prog 13 [slW l, cI d, slS S] (.tup [slI' V, cI e]) := by
  have hv := fun j (hj : j < S.length) => value_both l d (nth S j) hl (hok.len _ (nth_mem hj)) (hok.ok _ (nth_mem hj)) (hok.few _ (nth_mem hj))
  have hne : S = [] ∨ 20 < (S.length : Int) → False := fun q => by
    rcases q with q | q
    · rw [q] at h; simp at h
    · omega
  refine ACalls.of_W (qs := [slI' V, cI e]) [6, 7] 74 Try.func13 (by kernel_rfl) rfl rfl rfl fun G => ?_
  refine W.initA (hw := ?_)
  repeat' (first | ((first | apply U_ | (apply Ug_; exact rfl; exact rfl) | (apply Ugq_; exact rfl; exact rfl) | apply Lex.u | (apply Lex.g; exact rfl; exact rfl) | (apply Lex.gq; exact rfl; exact rfl)); (first | exact QX.B TYok | exact QX.Len TYok | exact QX.Idx TYok | exact QX.Ext TYok); exact rfl) | refine SX.Alloc TYok (h := ?_) | refine SX.Store TYok (h := ?_) | refine SX.Lit TYok (h := ?_) | refine SX.App TYok (h := ?_) | refine SC ?_ | (apply S_isnil TYok; exact rfl; exact rfl; exact rfl; exact Ev.auto; intro bn hnil) | refine SG ?_ | (apply W.draw2 (id := 12) [0, 1, 0, 7, 15] [[13], [48], [11], [49, 50], [51]] 5 [(48, 8192), (49, 281474976710656), (50, 2048), (51, 1688849860263936), (52, 2251799813685248)] mixed (by kernel_rfl) rfl rfl) | (refine W.condA (ht := fun hb => ?_) (hf := fun hb => ?_) <;> (try simp at hb) <;> (try (exfalso; first | exact hne hb | omega))))
  refine W.weaken (Le.nilOwn (t := 8) (n := 8) (E := 3) (sz := 1) rfl) ?_
  apply W.loopP (σ := (Nat × Bool)) 74 [0, 1, 2] (fun z => z.1 ≤ S.length ∧ (z.2 = true ↔ ∃ j, j < z.1 ∧ goodB (vS l d (nth S j)) = false)) (fun z => [(10, vI z.1), (9, (True, .pv (cB z.2))), (8, (True, .slc 8))]) (fun z => [(8, ⟨3, 1, ((S.take z.1).map fun s => refN (vS l d s)).map Lf.encI⟩)]) (fun z => S.length - z.1) ((0, false))
  case hp => repeat (first | exact Pick.nil | apply Pick.cons rfl)
  case h0 =>
    refine ⟨⟨by omega, by simp⟩, ?_⟩
    exact Le.auto
  case round =>
    rintro ⟨k, B⟩ ⟨gk, gb⟩
    apply W.norm (by repeat (first | exact App.nil | apply App.cons))
    simp only at gk gb
    by_cases hk : k < S.length
    · have v1 := (hv k (by omega)).2
      have e0 := hz k hk
      have eV : valV l d (nth S k) = zF (vS l d (nth S k)) := if_pos e0
      rw [e0, eV] at v1
      have o : okF (vS l d (nth S k)) := (valE_zero (hok.few _ (nth_mem (show k < S.length by omega))) e0).2.2
      have f1 := qfloor_ok (vS l d (nth S k)) o
      have oz := okZ_quo (x := (vS l d (nth S k)).num) o.1 (den_ne (vS l d (nth S k)))
      have i1 := rint_ok _ oz
      have iv := intV_i64 (quoZ (vS l d (nth S k)).num (vS l d (nth S k)).den)
      have w1 := qwhole_ok _ iv
      have c1 := qcmp_ok _ _ (okF_int iv) o
      have e1 : (S.take (k + 1)).map (fun s => refN (vS l d s)) = (S.take k).map (fun s => refN (vS l d s)) ++ [refN (vS l d (nth S k))] := by rw [take_nth (by omega)]; simp
      have l1 : ((S.take k).map fun s => refN (vS l d s)).length ≤ 20 := by simp; omega
      generalize (S.take k).map (fun s => refN (vS l d s)) = M at *
      have cc := cmpR_cases ((intV (quoZ (vS l d (nth S k)).num (vS l d (nth S k)).den) : Int) : Rat) (vS l d (nth S k))
      have rg := refN_good (f := vS l d (nth S k))
      have rb := refN_bad (f := vS l d (nth S k))
      have er : refN (vS l d (nth S k)) = if ((intV (quoZ (vS l d (nth S k)).num (vS l d (nth S k)).den) : Int) : Rat) = vS l d (nth S k) then intV (quoZ (vS l d (nth S k)).num (vS l d (nth S k)).den) else IntKind.i64.wrap (intV (quoZ (vS l d (nth S k)).num (vS l d (nth S k)).den) + 1) := rfl
      have hnext : ∀ B' : Bool, B' = (((B || !decide (i64B (quoZ (vS l d (nth S k)).num (vS l d (nth S k)).den))) || decide (refN (vS l d (nth S k)) < 0)) || decide (1000000000000000 < refN (vS l d (nth S k)))) → (B' = true ↔ ∃ j, j < k + 1 ∧ goodB (vS l d (nth S j)) = false) := fun B' hB' => by
        subst hB'
        constructor
        · intro q
          cases hgd : goodB (vS l d (nth S k)) with
          | false => exact ⟨k, by omega, hgd⟩
          | true =>
            obtain ⟨r1, r2⟩ := rg hgd
            obtain ⟨_, _, r3⟩ := good_in hgd
            rw [decide_eq_true r2, r1, decide_eq_false (show ¬ ceilR (vS l d (nth S k)) < 0 by omega), decide_eq_false (show ¬ 1000000000000000 < ceilR (vS l d (nth S k)) by omega)] at q
            simp only [Bool.not_true, Bool.or_false] at q
            obtain ⟨j, hj, hg'⟩ := gb.1 q
            exact ⟨j, by omega, hg'⟩
        · rintro ⟨j, hj, hg'⟩
          rcases Nat.lt_or_ge j k with w | w
          · rw [gb.2 ⟨j, w, hg'⟩]; rfl
          · obtain rfl : j = k := by omega
            have := rb hg'
            simp only [Bool.or_eq_true] at this ⊢
            rcases this with (t | t) | t
            · exact .inl (.inl (.inr t))
            · exact .inl (.inr t)
            · exact .inr t
      clear rg rb oz
      by_cases heq : ((intV (quoZ (vS l d (nth S k)).num (vS l d (nth S k)).den) : Int) : Rat) = vS l d (nth S k)
      · rw [if_pos heq] at er
        have y : cmpR ((intV (quoZ (vS l d (nth S k)).num (vS l d (nth S k)).den) : Int) : Rat) (vS l d (nth S k)) = 0 := by
          rcases cc with q | q | q
          · exact absurd q.2 (by rw [heq]; grind)
          · exact q.1
          · exact absurd q.2 (by rw [heq]; grind)
        clear cc heq
        generalize hR : refN (vS l d (nth S k)) = R at *
        generalize vS l d (nth S k) = X at *
        generalize cmpR ((intV (quoZ X.num X.den) : Int) : Rat) X = C at *
        generalize ((intV (quoZ X.num X.den) : Int) : Rat) = Y at *
        generalize decide (i64B (quoZ X.num X.den)) = b at *
        generalize intV (quoZ X.num X.den) = v at *
        subst er
        repeat' (first | ((first | apply U_ | (apply Ug_; exact rfl; exact rfl) | (apply Ugq_; exact rfl; exact rfl) | apply Lex.u | (apply Lex.g; exact rfl; exact rfl) | (apply Lex.gq; exact rfl; exact rfl)); (first | exact QX.B TYok | exact QX.Len TYok | exact QX.Idx TYok | exact QX.Ext TYok | exact QCd (v1) | exact QCd (f1) | exact QCd (i1) | exact QCd (w1) | exact QCd (c1)); exact rfl) | refine SX.Alloc TYok (h := ?_) | refine SX.Store TYok (h := ?_) | refine SX.Lit TYok (h := ?_) | refine SX.App TYok (h := ?_) | refine SC ?_ | (apply S_isnil TYok; exact rfl; exact rfl; exact rfl; exact Ev.auto; intro bn hnil) | refine SG ?_ | (apply W.draw2 (id := 12) [0, 1, 0, 7, 15] [[13], [48], [11], [49, 50], [51]] 5 [(48, 8192), (49, 281474976710656), (50, 2048), (51, 1688849860263936), (52, 2251799813685248)] mixed (by kernel_rfl) rfl rfl) | (refine W.condA (ht := fun hb => ?_) (hf := fun hb => ?_) <;> (try simp at hb) <;> (try (exfalso; omega))))
        all_goals first
          | (refine ⟨(k + 1, _), ⟨by simp only; omega, hnext _ rfl⟩, ?_, by simp only; omega⟩
             (try dsimp only)
             rw [e1, List.map_append, List.map_cons, List.map_nil]
             exact Le.auto)
          | (exfalso; omega)
          | trace_state
      · rw [if_neg heq] at er
        have y : ¬ cmpR ((intV (quoZ (vS l d (nth S k)).num (vS l d (nth S k)).den) : Int) : Rat) (vS l d (nth S k)) = 0 := by
          rcases cc with q | q | q
          · omega
          · exact absurd q.2 heq
          · omega
        clear cc heq
        generalize hR : refN (vS l d (nth S k)) = R at *
        generalize vS l d (nth S k) = X at *
        generalize cmpR ((intV (quoZ X.num X.den) : Int) : Rat) X = C at *
        generalize ((intV (quoZ X.num X.den) : Int) : Rat) = Y at *
        generalize decide (i64B (quoZ X.num X.den)) = b at *
        generalize intV (quoZ X.num X.den) = v at *
        clear iv
        subst er
        repeat' (first | ((first | apply U_ | (apply Ug_; exact rfl; exact rfl) | (apply Ugq_; exact rfl; exact rfl) | apply Lex.u | (apply Lex.g; exact rfl; exact rfl) | (apply Lex.gq; exact rfl; exact rfl)); (first | exact QX.B TYok | exact QX.Len TYok | exact QX.Idx TYok | exact QX.Ext TYok | exact QCd (v1) | exact QCd (f1) | exact QCd (i1) | exact QCd (w1) | exact QCd (c1)); exact rfl) | refine SX.Alloc TYok (h := ?_) | refine SX.Store TYok (h := ?_) | refine SX.Lit TYok (h := ?_) | refine SX.App TYok (h := ?_) | refine SC ?_ | (apply S_isnil TYok; exact rfl; exact rfl; exact rfl; exact Ev.auto; intro bn hnil) | refine SG ?_ | (apply W.draw2 (id := 12) [0, 1, 0, 7, 15] [[13], [48], [11], [49, 50], [51]] 5 [(48, 8192), (49, 281474976710656), (50, 2048), (51, 1688849860263936), (52, 2251799813685248)] mixed (by kernel_rfl) rfl rfl) | (refine W.condA (ht := fun hb => ?_) (hf := fun hb => ?_) <;> (try simp at hb) <;> (try (exfalso; omega))))
        all_goals first
          | (refine ⟨(k + 1, _), ⟨by simp only; omega, hnext _ rfl⟩, ?_, by simp only; omega⟩
             (try dsimp only)
             rw [e1, List.map_append, List.map_cons, List.map_nil]
             exact Le.auto)
          | (exfalso; omega)
          | trace_state
    · obtain rfl : k = S.length := by omega
      rw [List.take_length]
      rcases he with ⟨rfl, hg, rfl⟩ | ⟨rfl, hex, rfl⟩
      · have hB : B = false := by
          rw [Bool.eq_false_iff]
          intro q
          obtain ⟨j, hj, hg'⟩ := gb.1 q
          rw [hg j hj] at hg'
          cases hg'
        subst hB
        have el : S.map (fun s => refN (vS l d s)) = (S.map (vS l d)).map ceilR := by
          rw [List.map_map]
          refine List.map_congr_left fun s hs => ?_
          obtain ⟨j, hj, rfl⟩ := List.getElem_of_mem hs
          have := hg j hj
          rw [nth_eq hj] at this
          exact (refN_good this).1
        rw [el]
        repeat' (first | (refine W.weaken (Le.freeze1 (m := 8) rfl) ?_; apply W.region (id := 18)) | ((first | apply U_ | (apply Ug_; exact rfl; exact rfl) | (apply Ugq_; exact rfl; exact rfl) | apply Lex.u | (apply Lex.g; exact rfl; exact rfl) | (apply Lex.gq; exact rfl; exact rfl)); (first | exact QX.B TYok | exact QX.Len TYok | exact QX.Idx TYok | exact QX.Ext TYok); exact rfl) | refine SX.Alloc TYok (h := ?_) | refine SX.Store TYok (h := ?_) | refine SX.Lit TYok (h := ?_) | refine SX.App TYok (h := ?_) | refine SC ?_ | (apply S_isnil TYok; exact rfl; exact rfl; exact rfl; exact Ev.auto; intro bn hnil) | refine SG ?_ | (apply W.draw2 (id := 12) [0, 1, 0, 7, 15] [[13], [48], [11], [49, 50], [51]] 5 [(48, 8192), (49, 281474976710656), (50, 2048), (51, 1688849860263936), (52, 2251799813685248)] mixed (by kernel_rfl) rfl rfl) | (refine W.condA (ht := fun hb => ?_) (hf := fun hb => ?_) <;> (try simp at hb) <;> (try (exfalso; omega))))
        all_goals first
          | exact Fin.ret ResL.auto
          | trace_state
      · have hB : B = true := gb.2 hex
        subst hB
        repeat' (first | ((first | apply U_ | (apply Ug_; exact rfl; exact rfl) | (apply Ugq_; exact rfl; exact rfl) | apply Lex.u | (apply Lex.g; exact rfl; exact rfl) | (apply Lex.gq; exact rfl; exact rfl)); (first | exact QX.B TYok | exact QX.Len TYok | exact QX.Idx TYok | exact QX.Ext TYok); exact rfl) | refine SX.Alloc TYok (h := ?_) | refine SX.Store TYok (h := ?_) | refine SX.Lit TYok (h := ?_) | refine SX.App TYok (h := ?_) | refine SC ?_ | (apply S_isnil TYok; exact rfl; exact rfl; exact rfl; exact Ev.auto; intro bn hnil) | refine SG ?_ | (apply W.draw2 (id := 12) [0, 1, 0, 7, 15] [[13], [48], [11], [49, 50], [51]] 5 [(48, 8192), (49, 281474976710656), (50, 2048), (51, 1688849860263936), (52, 2251799813685248)] mixed (by kernel_rfl) rfl rfl) | (refine W.condA (ht := fun hb => ?_) (hf := fun hb => ?_) <;> (try simp at hb) <;> (try (exfalso; omega))))
        all_goals first
          | exact Fin.ret ResL.auto
          | trace_state
end
end
end Go.Proofs.Ytgpcmgjdkefdjaa
end
section
namespace Go.Proofs
open Go.Shelf
def Try.growW_ren : Go.Shelf.Ren := ⟨fun | 4 => 68 | n => n, fun | 22 => 22 | 25 => 44 | 3 => 3 | 4 => 4 | 9 => 9 | 20 => 20 | 0 => 0 | 2 => 3 | n => n, fun | n => n⟩
theorem Try.growW : Go.Proofs.Lays8.n4 Try.prog Try.growW_ren := {
  mixed := by kernel_rfl
  f4 := ⟨Try.f68.name, by decide, Try.func68.trans (congrArg some (by kernel_rfl))⟩
  t0 := Try.underlying0
  a0 := Try.isAgg0
  z0 := Try.sizeOf0
  v0 := Try.zeroValue0
  t3 := Try.underlying3
  a3 := Try.isAgg3
  z3 := Try.sizeOf3
  v3 := Try.zeroValue3
  t4 := Try.underlying4
  a4 := Try.isAgg4
  z4 := Try.sizeOf4
  v4 := Try.zeroValue4
  t9 := Try.underlying9
  a9 := Try.isAgg9
  z9 := Try.sizeOf9
  v9 := Try.zeroValue9
  t20 := Try.underlying20
  a20 := Try.isAgg20
  z20 := Try.sizeOf20
  v20 := Try.zeroValue20
  t22 := Try.underlying22
  a22 := Try.isAgg22
  z22 := Try.sizeOf22
  v22 := Try.zeroValue22 }
end Go.Proofs
end
section
set_option linter.unusedVariables false
set_option linter.unusedSimpArgs false
set_option linter.unusedSectionVars false
namespace Lf
open Go Go.RowKit Go.ChangeShapes Go.WideShapes Go.ChangeAt
def allΦ (w : World) : Frz := fun b => match w.heap[b]? with | some (.cells c _ _) => some c | _ => none
theorem fits_all (w : World) : Fits (allΦ w) w := by
  intro b cs h
  unfold allΦ at h
  split at h
  · rename_i c e l he
    obtain rfl := Option.some.inj h
    exact ⟨_, _, he⟩
  · cases h
theorem cell_all {w : World} {a : Addr} {v : Value} (h : w.cell? a = some v) : a.spot = none ∧ (allΦ w a.block).bind (·[a.off]?) = some v := by
  unfold World.cell? at h
  unfold allΦ
  split at h
  · rename_i c e l he
    rw [he]
    split at h
    · cases h
    · rename_i hs
      exact ⟨by simpa using hs, by simpa using h⟩
  · cases h
def TyS (R : Nat → List Cell → Prop) : List (Nat × Nat) → List Cell → Prop
  | [], cl => cl = []
  | (_, ft) :: fs, cl => ∃ a b, cl = a ++ b ∧ R ft a ∧ TyS R fs b
def TyL (T : TT) : Nat → Nat → List Cell → Prop
  | 0, _, _ => False
  | n + 1, t, cl => match (T t).map TI.kind with
    | some (.int k) => ∃ i, cl = [.int k i] ∧ (Lit.int k i).wf = true
    | some .bool => ∃ b, cl = [.bool b]
    | some .string => ∃ s, cl = [.str s] ∧ s.length ≤ maxLen
    | some (.slice e) => ∃ rows, cl = [.sl rows] ∧ rows.length ≤ maxLen ∧ ∀ r ∈ rows, TyL T n e r
    | some (.struct fs) => TyS (TyL T n) fs cl
    | _ => False
def tile (T : TT) : Nat → List (Nat × Nat) → Option Nat
  | o, [] => some o
  | o, (fo, ft) :: fs => bif Nat.beq fo o then (T ft).bind fun ti => tile T (o + ti.sz) fs else none
def sup (T : TT) : Nat → Nat → Bool
  | 0, _ => false
  | n + 1, t => match T t with
    | some ti => (match ti.kind with
      | .int _ | .bool | .string => Nat.beq ti.sz 1
      | .slice e => Nat.beq ti.sz 1 && sup T n e && (match T e with | some te => Nat.blt 0 te.sz | none => false)
      | .struct fs => (match tile T 0 fs with | some s => Nat.beq s ti.sz | none => false) && fs.all fun f => sup T n f.2
      | _ => false)
    | none => false
theorem pick_rows {α : Type} {p : Nat → α → Prop} : ∀ {n : Nat}, (∀ i, i < n → ∃ r, p i r) → ∃ rows : List α, rows.length = n ∧ ∀ i r, rows[i]? = some r → p i r
  | 0, _ => ⟨[], rfl, fun i r h => by simp at h⟩
  | n + 1, h => by
    obtain ⟨rows, h1, h2⟩ := pick_rows (n := n) fun i hi => h i (by omega)
    obtain ⟨r, hr⟩ := h n (by omega)
    refine ⟨rows ++ [r], by simp [h1], fun i s hs => ?_⟩
    rw [List.getElem?_append] at hs
    split at hs
    · exact h2 i s hs
    · rename_i hi
      by_cases he : i = n
      · subst he
        simp [h1] at hs
        exact hs ▸ hr
      · rw [List.getElem?_eq_none (by simp; omega)] at hs
        cases hs
section
variable {P : Program} {T : TT} (hT : TOK P T)
include hT
theorem cellsOf_ti {t : Nat} {ti : TI} (h : T t = some ti) : P.cellsOf t = ti.sz := by
  obtain ⟨i, hi, hs, _⟩ := (hT t ti h).info
  simp [Program.cellsOf, hi, hs]
theorem read {H : Type} {enc : TypeId × Value → H} {w : World} {base : Nat} {spare : Nat → Bool} {held : Bool} : ∀ (n t fuel : Nat) (cs : List Value) (x : DataW H × List MemPlace), sup T n t = true → DataW.trod enc P w base spare held fuel t cs = some x →
    ∃ cl, RelL (allΦ w) cs cl ∧ TyL T n t cl ∧ ∀ ti, T t = some ti → cl.length = ti.sz := by
  intro n
  induction n with
  | zero => intro t fuel cs x hs _; simp [sup] at hs
  | succ n ih =>
    intro t fuel cs x hs h
    cases hti : T t with
    | none => simp [sup, hti] at hs
    | some ti =>
      have hk := (hT t ti hti).kind
      have hz := cellsOf_ti hT hti
      simp only [sup, hti] at hs
      simp only [TyL, hti, Option.map_some]
      cases hkd : ti.kind with
      | int k =>
        rw [hkd] at hk hs
        obtain ⟨i, rfl, hx, hw⟩ := DataW.trod_int hk h
        exact ⟨[.int k i], ⟨.int k i, trivial⟩, ⟨i, rfl, hw⟩, fun tj hj => by obtain rfl := Option.some.inj hj; simpa using (Nat.eq_of_beq_eq_true hs).symm⟩
      | bool =>
        rw [hkd] at hk hs
        obtain ⟨b, rfl, hx⟩ := DataW.trod_bool hk h
        exact ⟨[.bool b], ⟨.bool b, trivial⟩, ⟨b, rfl⟩, fun tj hj => by obtain rfl := Option.some.inj hj; simpa using (Nat.eq_of_beq_eq_true hs).symm⟩
      | string =>
        rw [hkd] at hk hs
        obtain ⟨s, rfl, hx, hw⟩ := DataW.trod_string hk h
        refine ⟨[.str s.data.toList], ⟨.str s, trivial⟩, ⟨_, rfl, ?_⟩, fun tj hj => by obtain rfl := Option.some.inj hj; simpa using (Nat.eq_of_beq_eq_true hs).symm⟩
        rw [Array.length_toList]; exact hw
      | slice e =>
        rw [hkd] at hk hs
        simp only [Bool.and_eq_true] at hs
        obtain ⟨⟨hs1, hs2⟩, hs3⟩ := hs
        cases hte : T e with
        | none => rw [hte] at hs3; cases hs3
        | some te =>
          rw [hte] at hs3
          have hpos := blt_lt hs3
          have hze := cellsOf_ti hT hte
          have hlen1 : ∀ tj, some ti = some tj → 1 = tj.sz := fun tj hj => by obtain rfl := Option.some.inj hj; exact (Nat.eq_of_beq_eq_true hs1).symm
          rcases DataW.trod_slice hk h with ⟨rfl, hx⟩ | ⟨a, len, cap, elems, rest, m, rfl, rfl, hx, hb, hl, hm, hel, hget, _, _⟩
          · exact ⟨[.sl []], ⟨.sl0, trivial⟩, ⟨[], rfl, Nat.zero_le _, fun r hr => by cases hr⟩, hlen1⟩
          · have each : ∀ i, i < len → ∃ cl : List Cell, ∃ ci, w.cells? base (a.add (i * P.cellsOf e)) (P.cellsOf e) = some ci ∧ RelL (allΦ w) ci cl ∧ TyL T n e cl ∧ cl.length = te.sz := by
              intro i hi
              have h1 := hget i hi
              rw [List.getElem?_eq_getElem (by omega)] at h1
              cases hc : w.cells? base (a.add (i * P.cellsOf e)) (P.cellsOf e) with
              | none => rw [hc] at h1; cases h1
              | some ci =>
                rw [hc] at h1
                obtain ⟨cl, g1, g2, g3⟩ := ih e m ci _ hs2 h1
                exact ⟨cl, ci, rfl, g1, g2, g3 te hte⟩
            obtain ⟨rows, hr1, hr2⟩ := pick_rows each
            refine ⟨[.sl rows], ⟨?_, trivial⟩, ⟨rows, rfl, by omega, fun r hr => ?_⟩, hlen1⟩
            · by_cases h0 : len = 0
              · subst h0
                obtain rfl : rows = [] := List.eq_nil_of_length_eq_zero hr1
                exact .slE a cap
              · obtain ⟨b, off, spot⟩ := a
                have cellat : ∀ i j r c, rows[i]? = some r → r[j]? = some c → ∃ v, w.cell? (Addr.add (Addr.add ⟨b, off, spot⟩ (i * te.sz)) j) = some v ∧ Rel (allΦ w) v c := by
                  intro i j r c h1 h2
                  obtain ⟨ci, g1, g2, g3, g4⟩ := hr2 i r h1
                  obtain ⟨v, hv1, hv2⟩ := g2.get h2
                  rw [hze] at g1
                  have hj : j < te.sz := by have := (List.getElem?_eq_some_iff.1 h2).1; omega
                  have := World.cells?_some g1
                  refine ⟨v, ?_, hv2⟩
                  rw [← hv1]
                  exact this.2.2 j hj
                have hrow0 : ∃ r, rows[0]? = some r := ⟨rows[0]'(by omega), List.getElem?_eq_getElem (by omega)⟩
                obtain ⟨r0, hr0⟩ := hrow0
                obtain ⟨_, _, _, _, hl0⟩ := hr2 0 r0 hr0
                obtain ⟨v0, hv0, _⟩ := cellat 0 0 r0 _ hr0 (List.getElem?_eq_getElem (show 0 < r0.length by omega))
                have hz0 : Addr.add (Addr.add ⟨b, off, spot⟩ (0 * te.sz)) 0 = ⟨b, off, spot⟩ := by simp [Addr.add]
                rw [hz0] at hv0
                have hsp : spot = none := (cell_all hv0).1
                subst hsp
                refine .sl b off len cap te.sz rows (fun i j => ((allΦ w b).bind (·[off + (i * te.sz + j)]?)).getD .nilFunc) hr1 hl (fun r hr => ?_) (fun i j r c h1 h2 => ?_) (fun i j r c h1 h2 => ?_)
                · obtain ⟨i, hi⟩ := List.getElem?_of_mem hr
                  obtain ⟨_, _, _, _, g⟩ := hr2 i r hi
                  exact g
                · obtain ⟨v, hv, _⟩ := cellat i j r c h1 h2
                  have := (cell_all hv).2
                  simp only [Addr.add_lit] at this
                  rw [show off + (i * te.sz + j) = off + i * te.sz + j by omega, this]; rfl
                · obtain ⟨v, hv, hv2⟩ := cellat i j r c h1 h2
                  have := (cell_all hv).2
                  simp only [Addr.add_lit] at this
                  rw [show off + (i * te.sz + j) = off + i * te.sz + j by omega, this]; exact hv2
            · obtain ⟨i, hi⟩ := List.getElem?_of_mem hr
              obtain ⟨_, _, _, g, _⟩ := hr2 i r hi
              exact g
      | struct fs =>
        rw [hkd] at hk hs
        obtain ⟨fields, hu, hfs⟩ := hk
        simp only [Bool.and_eq_true] at hs
        obtain ⟨hs1, hs2⟩ := hs
        cases htl : tile T 0 fs with
        | none => rw [htl] at hs1; cases hs1
        | some tot =>
          rw [htl] at hs1
          have htot := Nat.eq_of_beq_eq_true hs1
          obtain ⟨xs, m, rfl, hx, hlen, hxl, hget⟩ := DataW.trod_struct hu h
          have hall : ∀ f ∈ fs, ∃ y, DataW.trod enc P w base spare held m f.2 ((cs.drop f.1).take (P.cellsOf f.2)) = some y := by
            intro f hf
            rw [← hfs] at hf
            obtain ⟨g, hg, rfl⟩ := List.mem_map.1 hf
            obtain ⟨i, hi⟩ := List.getElem?_of_mem hg
            have hi' : fields[i]? = some g := by rw [← hi]; simp
            have hlt : i < xs.length := by rw [hxl]; exact (Array.getElem?_eq_some_iff.1 hi').1
            exact ⟨xs[i], by rw [hget i g hi', List.getElem?_eq_getElem hlt]⟩
          have main : ∀ (gs : List (Nat × Nat)) (o : Nat), (∀ f ∈ gs, ∃ y, DataW.trod enc P w base spare held m f.2 ((cs.drop f.1).take (P.cellsOf f.2)) = some y) → gs.all (fun f => sup T n f.2) = true → tile T o gs = some tot → cs.length = tot →
              ∃ cl, RelL (allΦ w) (cs.drop o) cl ∧ TyS (TyL T n) gs cl ∧ o + cl.length = tot := by
            intro gs
            induction gs with
            | nil =>
              intro o _ _ h1 h2
              simp only [tile, Option.some.injEq] at h1
              refine ⟨[], ?_, rfl, by simp [h1]⟩
              rw [List.drop_eq_nil_of_le (by omega)]
              trivial
            | cons f gs ihs =>
              intro o hall' hsup h1 h2
              obtain ⟨fo, ft⟩ := f
              rw [tile] at h1
              cases hbe : Nat.beq fo o with
              | false => rw [hbe] at h1; cases h1
              | true =>
                have := Nat.eq_of_beq_eq_true hbe
                subst this
                rw [hbe, cond_true] at h1
                cases htf : T ft with
                | none => rw [htf] at h1; cases h1
                | some tf =>
                  rw [htf] at h1
                  simp only [Option.bind_some] at h1
                  simp only [List.all_cons, Bool.and_eq_true] at hsup
                  obtain ⟨y, hy⟩ := hall' _ (List.mem_cons_self ..)
                  obtain ⟨c1, a1, a2, a3⟩ := ih ft m _ y hsup.1 hy
                  obtain ⟨c2, b1, b2, b3⟩ := ihs (fo + tf.sz) (fun g hg => hall' g (List.mem_cons_of_mem _ hg)) hsup.2 h1 h2
                  have hl1 := a3 tf htf
                  refine ⟨c1 ++ c2, ?_, ⟨c1, c2, rfl, a2, b2⟩, by simp; omega⟩
                  have e : cs.drop fo = (cs.drop fo).take tf.sz ++ cs.drop (fo + tf.sz) := by
                    rw [← List.drop_drop, List.take_append_drop]
                  rw [e]
                  rw [cellsOf_ti hT htf] at a1
                  exact a1.append b1
          obtain ⟨cl, c1, c2, c3⟩ := main fs 0 hall hs2 htl (by rw [hlen, hz, htot])
          refine ⟨cl, by simpa using c1, c2, fun tj hj => ?_⟩
          obtain rfl := Option.some.inj hj
          omega
      | array k e => rw [hkd] at hs; cases hs
      | ptr e => rw [hkd] at hs; cases hs
      | map k e => rw [hkd] at hs; cases hs
      | func => rw [hkd] at hs; cases hs
      | iface => rw [hkd] at hs; cases hs
      | other => rw [hkd] at hs; cases hs
/-- A slice that came in. -/
theorem read_slice {H : Type} {enc : TypeId × Value → H} {w : World} {base b0 : Nat} {spare : Nat → Bool} {held : Bool} {r : Reach} {t e : Nat} {v : Value} {d : DataW H} {ps : List MemPlace} (n : Nat) (hu : P.underlying t = some (.slice e)) (hs : sup T n t = true)
    (hval : Value.okWide P w r b0 t v) (hd : DataW.Trod enc P w base spare held t v d ps) : ∃ c, Rel (allΦ w) v c ∧ TyL T n t [c] := by
  obtain ⟨a, len, cap, rfl⟩ := okWide_slice hu hval
  obtain ⟨fuel, hf⟩ := hd
  obtain ⟨cl, h1, h2, _⟩ := read hT n t fuel _ _ hs hf
  simp only [Value.cells] at h1
  match cl, h1, h2 with
  | [c], h1, h2 => exact ⟨c, h1.1, h2⟩
/-- A struct that came in. -/
theorem read_struct {H : Type} {enc : TypeId × Value → H} {w : World} {base b0 : Nat} {spare : Nat → Bool} {held : Bool} {r : Reach} {t : Nat} {fs : Array Field} {v : Value} {d : DataW H} {ps : List MemPlace} (n : Nat) (hu : P.underlying t = some (.struct fs)) (hs : sup T n t = true)
    (hval : Value.okWide P w r b0 t v) (hd : DataW.Trod enc P w base spare held t v d ps) : ∃ cs, PRel (allΦ w) v (.agg cs) ∧ TyL T n t cs := by
  obtain ⟨arr, rfl, _⟩ := okWide_struct hu hval
  obtain ⟨fuel, hf⟩ := hd
  obtain ⟨cl, h1, h2, _⟩ := read hT n t fuel _ _ hs hf
  exact ⟨cl, ⟨arr, rfl, h1⟩, h2⟩
end
theorem rows_map {α : Type} {f : α → List Cell} {p : α → Prop} : ∀ {rows : List (List Cell)}, (∀ r ∈ rows, ∃ v, r = f v ∧ p v) → ∃ l : List α, rows = l.map f ∧ ∀ v ∈ l, p v
  | [], _ => ⟨[], rfl, fun v hv => by cases hv⟩
  | r :: rs, h => by
    obtain ⟨v, rfl, hv⟩ := h r (List.mem_cons_self ..)
    obtain ⟨l, rfl, hl⟩ := rows_map fun s hs => h s (List.mem_cons_of_mem _ hs)
    exact ⟨v :: l, rfl, fun u hu => by cases hu with | head => exact hv | tail _ hm => exact hl u hm⟩
/-- arguments, one after the other -/
def ArgsL (Φ : Frz) : List Value → List PV → Prop
  | [], [] => True
  | v :: vs, p :: ps => PRel Φ v p ∧ ArgsL Φ vs ps
  | _, _ => False
theorem ArgsL.rel {Φ : Frz} : ∀ {vs : List Value} {ps : List PV}, ArgsL Φ vs ps → vs.length = ps.length ∧ ∀ (j : Nat) (p : PV), ps[j]? = some p → ∃ v, vs[j]? = some v ∧ PRel Φ v p
  | [], [], _ => ⟨rfl, fun j p h => by simp at h⟩
  | v :: vs, p :: ps, h => by
    obtain ⟨h1, h2⟩ := ArgsL.rel h.2
    refine ⟨by simp [h1], fun j q hq => ?_⟩
    cases j with
    | zero => simp at hq; exact ⟨v, rfl, hq ▸ h.1⟩
    | succ j => simpa using h2 j q (by simpa using hq)
theorem ArgsRel.of {Φ : Frz} {vs : List Value} {ps : List PV} (h : ArgsL Φ vs ps) : ArgsRel Φ vs.toArray ps := ⟨by simpa using h.rel.1, fun j p hp => by simpa using h.rel.2 j p hp⟩
theorem ArgsL.nil {Φ : Frz} : ArgsL Φ [] [] := trivial
theorem ArgsL.cons {Φ : Frz} {v : Value} {vs : List Value} {p : PV} {ps : List PV} (h : PRel Φ v p) (hs : ArgsL Φ vs ps) : ArgsL Φ (v :: vs) (p :: ps) := ⟨h, hs⟩
end Lf
end
section
set_option linter.unusedVariables false
set_option linter.unusedSimpArgs false
set_option linter.unusedSectionVars false
namespace Lf
open Go Go.RowKit
section
variable {P : Program} {G : Ghost} {A : St} {Φ : Frz} {β : Own} {a : Act} {w w' : World}
theorem args2 {Φ : Frz} {vs : Array Value} {p q : PV} (h : ArgsRel Φ vs [p, q]) : ∃ v u, vs = #[v, u] ∧ PRel Φ v p ∧ PRel Φ u q := by
  obtain ⟨hsz, hv⟩ := h
  obtain ⟨v0, h0, r0⟩ := hv 0 _ rfl
  obtain ⟨v1, h1, r1⟩ := hv 1 _ rfl
  refine ⟨v0, v1, ?_, r0, r1⟩
  apply Array.ext
  · exact hsz
  · intro i h2 h3
    have h4 : i = 0 ∨ i = 1 := by simp at h3; omega
    rcases h4 with rfl | rfl
    · have := h0; rw [Array.getElem?_eq_getElem h2] at this; simpa using this
    · have := h1; rw [Array.getElem?_eq_getElem h2] at this; simpa using this
theorem int_of {Φ : Frz} {v : Value} {k : IntKind} {n : Int} (h : PRel Φ v (.one (.int k n))) : v = .int k n := by
  have h' : Rel Φ v (.int k n) := h
  cases h'; rfl
end
section
variable {P : Program} {G : Ghost} {ops : Array Oper} {rest : List Oper} {Q : St → Prop} {n0 : Nat} {env : List (Nat × (Prop × AV))} {bl : List (Nat × Blk)} {ty : TypeId} {pos : String} {after : Array Edge}
end
end Lf
end
section
set_option linter.unusedVariables false
set_option linter.unusedSimpArgs false
set_option maxHeartbeats 8000000
set_option linter.unusedSectionVars false
namespace Go.Proofs.Ytgpcmgjdkefdjaa
open Lf Go
attribute [local irreducible] PureOp EffOp Ev RG W Then InBlock Lf.Fin nth App InitE Pick SubE EvL EvD EvP EvR ResL Lf.Lex SubR SubBR RA RAll EvC FinO FinM ResM ResD FinS val pw digs trimL
section
open Go.RowKit
theorem grow_own (n : Nat) (hb : n ≤ 1000000) : OCalls Try.prog 68 [.one .slnil, cI n] 44 2 [] where
  fn := ⟨Try.f68, Try.func68, by kernel_rfl, by kernel_rfl⟩
  calls := fun Φ w vs hfit harg => by
    obtain ⟨v, u, rfl, hv, hu⟩ := args2 harg
    obtain rfl : v = .slice none 0 0 := by
      have h : Rel Φ v .slnil := hv
      cases h; rfl
    obtain rfl := int_of hu
    by_cases h0 : n = 0
    · subst h0
      refine Calls.mono (Any8.slices_Grow_room Try.growW none 0 0 0 w (by omega) (by omega) (by omega) (by omega)) ?_
      rintro e w' ⟨rfl, rfl⟩
      exact ⟨_, Φ, rfl, .inl ⟨rfl, rfl⟩, Φ.le_refl, fun _ _ => rfl, hfit, Below.refl _ _⟩
    · obtain ⟨i, hi, hisz, hib, z, hzz, hrel⟩ := (TYok 44 _ rfl).info
      have hsz : i.size = 2 := hisz
      have hbt : i.bytes = 16 := hib
      have hzr := (hrel Φ).cells
      have hzs : z.cells.size = 2 := by have := hzr.length; rw [Array.length_toList] at this; exact this
      have hg := Any8.slices_Grow_grow Try.growW i z hi hzz (by omega) none 0 0 n [] w (by omega) (by omega) (by rw [hbt]; omega) (by omega) (by simp) (fun _ => rfl) (fun a h => by cases h)
      refine Calls.mono hg ?_
      rintro e w' ⟨rfl, rfl⟩
      have hcg := grownCap_ge w (0 + n) 0 44
      have hcm := grownCap_le_maxLen w (0 + n) 0 44 (by unfold maxLen; omega)
      have hren : Try.growW_ren.t 25 = 44 := rfl
      rw [hren]
      generalize grownCap w (0 + n) 0 44 = cap at *
      refine ⟨_, Φ, rfl, .inr ⟨w.heap.size, cap, rfl, Nat.le_refl _, .inl ⟨rfl, _, by show (w.heap.push _)[w.heap.size]? = _; rw [Array.getElem?_push_size], by simp, hcm, ?_, by simp, by simp⟩, ?_⟩, Φ.le_refl, fun _ _ => rfl, ?_, ?_⟩
      · simp [Builtin.zeroCells, hzs]
        omega
      · cases hΦ : Φ w.heap.size with
        | none => rfl
        | some c =>
          obtain ⟨E, fz, hw⟩ := hfit _ c hΦ
          simp at hw
      · intro b c hc
        obtain ⟨E, fz, hw⟩ := hfit b c hc
        have hlt := (Array.getElem?_eq_some_iff.1 hw).1
        exact ⟨E, fz, by show (w.heap.push _)[b]? = _; rw [Array.getElem?_push, if_neg (by omega)]; exact hw⟩
      · exact ⟨rfl, rfl, rfl, by show w.heap.size ≤ (w.heap.push _).size; simp, fun k hk => by show (w.heap.push _)[k]? = _; rw [Array.getElem?_push, if_neg (by omega)]⟩
abbrev encX (x : List Fl) : List Cell := [.sl (x.map encW)]
theorem flat_next {X : List (List Fl)} {k : Nat} (hk : k < X.length) : (X.take (k + 1)).flatten = (X.take k).flatten ++ nth X k := by
  rw [take_nth hk, List.flatten_append]
  simp
theorem concat_ok (X : List (List Fl)) (hX : X.length ≤ 4) (hx : ∀ x ∈ X, x.length ≤ 400) : ACalls Try.prog 43 [.one (.sl (X.map encX))] (.pv (slW X.flatten)) := by
  have hlen : ∀ k, k ≤ X.length → ((X.take k).flatten).length ≤ 400 * k := fun k => by
    induction k with
    | zero => intro _; simp
    | succ k ih =>
      intro h
      rw [flat_next (by omega), List.length_append]
      have := ih (by omega)
      have := hx _ (nth_mem (show k < X.length by omega))
      omega
  have hl4 := hlen X.length (Nat.le_refl _)
  rw [List.take_length] at hl4
  have gr := grow_own X.flatten.length (by omega)
  refine ACalls.of_W (qs := [slW X.flatten]) [2] 36 Try.func43 (by kernel_rfl) rfl rfl rfl fun G => ?_
  refine W.initA (hw := ?_)
  repeat' (first | ((first | apply U_); (first | exact QX.B TYok | exact QX.Len TYok | exact QX.Idx TYok); exact rfl) | refine SX.App TYok (h := ?_) | refine SC ?_ | (refine W.condA (ht := fun hb => ?_) (hf := fun hb => ?_) <;> (try simp at hb) <;> (try (exfalso; omega))))
  apply W.loopP (σ := Nat) 36 [0, 9, 10] (fun k => k ≤ X.length) (fun k => [(11, vI k), (3, vI (((X.take k).flatten).length : Int))]) (fun _ => []) (fun k => X.length - k) (0)
  case hp => repeat (first | exact Pick.nil | apply Pick.cons rfl)
  case h0 =>
    refine ⟨by omega, ?_⟩
    exact Le.auto
  case round =>
    rintro k gk
    apply W.norm (by repeat (first | exact App.nil | apply App.cons))
    by_cases hk : k < X.length
    · have e1 := flat_next hk
      have l1 := hlen k gk
      have l2 := hx _ (nth_mem hk)
      have e2 : (((X.take (k + 1)).flatten).length : Int) = (((X.take k).flatten).length : Int) + ((nth X k).length : Int) := by rw [e1, List.length_append]; omega
      generalize (X.take k).flatten = M at *
      repeat' (first | ((first | apply U_); (first | exact QX.B TYok | exact QX.Len TYok | exact QX.Idx TYok); exact rfl) | refine SX.App TYok (h := ?_) | refine SC ?_ | (refine W.condA (ht := fun hb => ?_) (hf := fun hb => ?_) <;> (try simp at hb) <;> (try (exfalso; omega))))
      all_goals first
        | (refine ⟨k + 1, by omega, ?_, by omega⟩; (try dsimp only); rw [e2]; exact Le.auto)
        | (exfalso; omega)
        | trace_state
    obtain rfl : k = X.length := by omega
    rw [List.take_length]
    repeat' (first | ((first | apply U_); (first | exact QX.B TYok | exact QX.Len TYok | exact QX.Idx TYok); exact rfl) | refine SX.App TYok (h := ?_) | (apply S_callo (gr); exact rfl; exact rfl; exact rfl; exact EvD.auto) | refine SC ?_ | (refine W.condA (ht := fun hb => ?_) (hf := fun hb => ?_) <;> (try simp at hb) <;> (try (exfalso; omega))))
    apply W.loopP (σ := Nat) 36 [25, 26] (fun k => k ≤ X.length) (fun k => [(27, vI k), (6, (True, .slc 24))]) (fun k => [(24, ⟨44, 2, ((X.take k).flatten).map encW⟩)]) (fun k => X.length - k) (0)
    case hp => repeat (first | exact Pick.nil | apply Pick.cons rfl)
    case h0 =>
      refine ⟨by omega, ?_⟩
      exact Le.auto
    case round =>
      rintro k gk
      apply W.norm (by repeat (first | exact App.nil | apply App.cons))
      by_cases hk : k < X.length
      · have e1 := flat_next hk
        have l1 := hlen k gk
        have l2 := hx _ (nth_mem hk)
        generalize (X.take k).flatten = M at *
        repeat' (first | ((first | apply U_); (first | exact QX.B TYok | exact QX.Len TYok | exact QX.Idx TYok); exact rfl) | refine SX.App TYok (h := ?_) | refine SC ?_ | (refine W.condA (ht := fun hb => ?_) (hf := fun hb => ?_) <;> (try simp at hb) <;> (try (exfalso; omega))))
        all_goals first
          | (refine ⟨k + 1, by omega, ?_, by omega⟩; (try dsimp only); rw [e1, List.map_append]; exact Le.auto)
          | (exfalso; omega)
          | trace_state
      obtain rfl : k = X.length := by omega
      rw [List.take_length]
      repeat' (first | (refine W.weaken (Le.freeze1 (m := 24) rfl) ?_; apply W.region (id := 15)) | ((first | apply U_); (first | exact QX.B TYok | exact QX.Len TYok | exact QX.Idx TYok); exact rfl) | refine SX.App TYok (h := ?_) | refine SC ?_ | (refine W.condA (ht := fun hb => ?_) (hf := fun hb => ?_) <;> (try simp at hb) <;> (try (exfalso; omega))))
      all_goals first
        | exact Fin.ret ResL.auto
        | trace_state
end
end Go.Proofs.Ytgpcmgjdkefdjaa
end
section
set_option linter.unusedVariables false
set_option linter.unusedSimpArgs false
set_option maxHeartbeats 8000000
set_option linter.unusedSectionVars false
namespace Go.Proofs.Ytgpcmgjdkefdjaa
open Lf Go
attribute [local irreducible] PureOp EffOp Ev RG W Then InBlock Lf.Fin nth App InitE Pick SubE EvL EvD EvP EvR ResL Lf.Lex SubR SubBR RA RAll EvC FinO FinM ResM ResD FinS val pw digs trimL
section
/-- the sum of the amounts in so many first years -/
def Uof (d : Int) : List Fl → Int → Int
  | [], _ => 0
  | f :: l, n => (if yrI d f < n then f.amt else 0) + Uof d l n
def mostY (d : Int) : List Fl → Int
  | [] => 0
  | f :: l => max (yrI d f) (mostY d l)
structure LIn (l : List Fl) (d : Int) : Prop where
  fl : flowsB l d = true
  early : ∀ f ∈ l, d ≤ f.day
theorem LIn.tail {f : Fl} {l : List Fl} {d : Int} (h : ∀ g ∈ f :: l, d ≤ g.day) : ∀ g ∈ l, d ≤ g.day := fun g hg => h g (List.mem_cons_of_mem _ hg)
theorem mostY_nn (d : Int) : ∀ l, 0 ≤ mostY d l
  | [] => Int.le_refl _
  | f :: l => by have := mostY_nn d l; rw [mostY]; omega
theorem Uof_more {d : Int} {l : List Fl} {n m : Int} (hn : mostY d l < n) (hm : n ≤ m) : Uof d l m = Uof d l n := by
  induction l with
  | nil => rfl
  | cons f l ih =>
    rw [mostY] at hn
    rw [Uof, Uof, ih (by omega), if_pos (by omega), if_pos (by omega)]
theorem Uof_zero {d : Int} {l : List Fl} (h : ∀ f ∈ l, d ≤ f.day) {n : Int} (hn : n ≤ 0) : Uof d l n = 0 := by
  induction l with
  | nil => rfl
  | cons f l ih =>
    have := h f (List.mem_cons_self ..)
    have hy : 0 ≤ yrI d f := by unfold yrI; omega
    rw [Uof, if_neg (by omega), ih (LIn.tail h)]; rfl
theorem Uof_snoc (d : Int) (l : List Fl) (f : Fl) (n : Int) : Uof d (l ++ [f]) n = Uof d l n + (if yrI d f < n then f.amt else 0) := by
  induction l with
  | nil => simp [Uof]
  | cons g l ih => rw [List.cons_append, Uof, Uof, ih]; omega
theorem mostY_snoc (d : Int) (l : List Fl) (f : Fl) : mostY d (l ++ [f]) = max (mostY d l) (yrI d f) := by
  induction l with
  | nil => simp only [List.nil_append, mostY]; omega
  | cons g l ih => rw [List.cons_append, mostY, mostY, ih]; omega
theorem Uof_rng {d : Int} {l : List Fl} (h : ∀ f ∈ l, (0 ≤ f.day ∧ f.day ≤ 200000) ∧ (-1000000000000000 ≤ f.amt ∧ f.amt ≤ 1000000000000000)) (n : Int) : -(1000000000000000 * (l.length : Int)) ≤ Uof d l n ∧ Uof d l n ≤ 1000000000000000 * (l.length : Int) := by
  induction l with
  | nil => simp [Uof]
  | cons f l ih =>
    have := ih fun g hg => h g (List.mem_cons_of_mem _ hg)
    have := (h f (List.mem_cons_self ..)).2
    rw [Uof, List.length_cons, show ((l.length + 1 : Nat) : Int) = l.length + 1 by omega, Int.mul_add, Int.mul_one]
    split <;> omega
/-- dearer: right, no payment ahead of the day, and at least as1 much in each number of first years -/
def Dear (a b : List Fl) (d : Int) : Prop := LIn a d ∧ LIn b d ∧ ∀ n : Nat, Uof d b n ≤ Uof d a n
theorem LIn.rng {l : List Fl} {d : Int} (h : LIn l d) : ((0 ≤ d ∧ d ≤ 200000) ∧ l.length ≤ 400) ∧ ∀ f ∈ l, (0 ≤ f.day ∧ f.day ≤ 200000) ∧ (-1000000000000000 ≤ f.amt ∧ f.amt ≤ 1000000000000000) := flowsB_yes h.fl
theorem LIn.yr {l : List Fl} {d : Int} (h : LIn l d) {f : Fl} (hf : f ∈ l) : 0 ≤ yrI d f ∧ yrI d f ≤ 547 := by
  have h1 := (h.rng.2 f hf).1
  have h2 := h.early f hf
  have h3 := h.rng.1.1
  unfold yrI; omega
theorem mostY_le {l : List Fl} {d : Int} (h : ∀ f ∈ l, yrI d f ≤ 547) : mostY d l ≤ 547 := by
  induction l with
  | nil => simp [mostY]
  | cons f l ih =>
    have := ih fun g hg => h g (List.mem_cons_of_mem _ hg)
    have := h f (List.mem_cons_self ..)
    rw [mostY]; omega
theorem dear_iff {a b : List Fl} {d : Int} (ha : LIn a d) (hb : LIn b d) : Dear a b d ↔ ∀ n : Nat, (n : Int) ≤ max (mostY d a) (mostY d b) → Uof d b (n + 1) ≤ Uof d a (n + 1) := by
  constructor
  · rintro ⟨_, _, h⟩ n _
    exact h (n + 1)
  · intro h
    refine ⟨ha, hb, fun n => ?_⟩
    cases n with
    | zero => rw [Uof_zero ha.early (by omega), Uof_zero hb.early (by omega)]; exact Int.le_refl _
    | succ n =>
      have ma := mostY_nn d a
      have mb := mostY_nn d b
      by_cases hn : (n : Int) ≤ max (mostY d a) (mostY d b)
      · exact h n hn
      · have := h (max (mostY d a) (mostY d b)).toNat (by omega)
        rw [show (((max (mostY d a) (mostY d b)).toNat : Nat) : Int) + 1 = max (mostY d a) (mostY d b) + 1 by omega] at this
        rw [Uof_more (n := max (mostY d a) (mostY d b) + 1) (by omega) (by omega), Uof_more (l := a) (n := max (mostY d a) (mostY d b) + 1) (by omega) (by omega)]
        exact this
theorem upto_ok (l : List Fl) (d n : Int) (h : LIn l d) : ACalls Try.prog 24 [slW l, cI d, cI n] (.tup [cI (Uof d l n), cI (mostY d l)]) := by
  obtain ⟨⟨hd, hl⟩, hr⟩ := h.rng
  refine ACalls.of_W (qs := [cI (Uof d l n), cI (mostY d l)]) [6, 7] 39 Try.func24 (by kernel_rfl) rfl rfl rfl fun G => ?_
  refine W.initA (hw := ?_)
  repeat' (first | ((first | apply U_); (first | exact QX.B TYok | exact QX.Num TYok | exact QX.Len TYok | exact QX.Idx TYok); exact rfl) | refine SC ?_ | (refine W.condA (ht := fun hb => ?_) (hf := fun hb => ?_) <;> (try simp at hb) <;> (try (exfalso; omega))))
  apply W.loopP (σ := Nat) 39 [0, 1, 2] (fun k => k ≤ l.length) (fun k => [(10, vI k), (8, vI (Uof d (l.take k) n)), (9, vI (mostY d (l.take k)))]) (fun _ => []) (fun k => l.length - k) (0)
  case hp => repeat (first | exact Pick.nil | apply Pick.cons rfl)
  case h0 =>
    refine ⟨by omega, ?_⟩
    exact Le.auto
  case round =>
    rintro k gk
    apply W.norm (by repeat (first | exact App.nil | apply App.cons))
    by_cases hk : k < l.length
    · have hm := nth_mem hk
      have f1 := hr _ hm
      have f2 := h.early _ hm
      have y1 := year_ok (nth l k) d ⟨f1.1, hd⟩
      rw [if_neg (by omega)] at y1
      have e1 := Uof_snoc d (l.take k) (nth l k) n
      have e2 := mostY_snoc d (l.take k) (nth l k)
      rw [← take_nth hk] at e1 e2
      have ur := Uof_rng (d := d) (l := l.take k) (fun g hg => hr g (List.mem_of_mem_take hg)) n
      have lt : ((l.take k).length : Int) ≤ 400 := by simp; omega
      have f3 := f1.2
      generalize Uof d (l.take k) n = U at *
      generalize mostY d (l.take k) = M at *
      generalize yrI d (nth l k) = Y at *
      repeat' (first | ((first | apply U_); (first | exact QX.B TYok | exact QX.Num TYok | exact QX.Len TYok | exact QX.Idx TYok | exact QCd (y1)); exact rfl) | refine SC ?_ | (refine W.condA (ht := fun hb => ?_) (hf := fun hb => ?_) <;> (try simp at hb) <;> (try (exfalso; omega))))
      all_goals first
        | (refine ⟨k + 1, by omega, ?_, by omega⟩
           (try dsimp only)
           rw [e1, e2]
           first
             | rw [if_pos (by omega)]
             | rw [if_neg (by omega), Int.add_zero]
           exact Le.auto)
        | trace_state
    · obtain rfl : k = l.length := by omega
      rw [List.take_length]
      repeat' (first | ((first | apply U_); (first | exact QX.B TYok | exact QX.Num TYok | exact QX.Len TYok | exact QX.Idx TYok); exact rfl) | refine SC ?_ | (refine W.condA (ht := fun hb => ?_) (hf := fun hb => ?_) <;> (try simp at hb) <;> (try (exfalso; omega))))
      all_goals exact Fin.ret ResL.auto
end
end Go.Proofs.Ytgpcmgjdkefdjaa
end
