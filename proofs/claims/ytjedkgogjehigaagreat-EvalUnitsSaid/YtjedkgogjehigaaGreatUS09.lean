/-
  Part 9 of what the proof rests on.
-/
import Derived.Test.YtjedkgogjehigaaGreatUS05
import Derived.Test.YtjedkgogjehigaaGreatUS06
import Derived.Test.YtjedkgogjehigaaGreatUS07
import Derived.Test.YtjedkgogjehigaaGreatUS08
import Derived.Test.YtjedkgogjehigaaGreatUS03
import Derived.ProofKit
import Derived.OpenShut
import Derived.Carry
section
set_option linter.unusedVariables false
set_option linter.unusedSimpArgs false
set_option maxHeartbeats 8000000
set_option linter.unusedSectionVars false
namespace Go.Proofs.YtjedkgogjehigaaGreat
open Lf Go
attribute [local irreducible] PureOp EffOp Ev RG W Then InBlock Lf.Fin nth App InitE Pick SubE EvL EvD EvP EvR ResL Lf.Lex SubR SubBR RA RAll EvC FinO FinM ResM ResD FinS val pw digs trimL
theorem rtrim_own (l : List Int) (hl : l.length ≤ 4000000) : OCalls Tryz.prog 123 [slI l] 3 1 ((trimL l).map Lf.encI) := by
  refine OCalls.of_W 2 23 Tryz.func123 (by kernel_rfl) rfl rfl rfl rfl fun G => ?_
  refine W.initA (hw := ?_)
  repeat' (first | ((first | apply U_ | (apply Ug_; exact rfl; exact rfl) | (apply Ugq_; exact rfl; exact rfl)); (first | exact QX.B TYok | exact QX.Len TYok | exact QX.Idx TYok | exact QX.Cut TYok); exact rfl) | refine SX.Lit TYok (h := ?_) | refine SX.App TYok (h := ?_) | refine SC ?_ | (apply S_isnil TYok; exact rfl; exact rfl; exact rfl; exact Ev.auto; intro bn hnil) | refine SG ?_ | (refine W.condA (ht := fun hb => ?_) (hf := fun hb => ?_) <;> (try simp at hb) <;> (try (exfalso; omega))))
  apply W.loopP (σ := Nat) 23 [0] (fun n => n ≤ l.length ∧ trimL l = trimL (l.take n)) (fun n => [(3, vI n)]) (fun _ => []) (fun n => n) (l.length)
  case hp => repeat (first | exact Pick.nil | apply Pick.cons rfl)
  case h0 =>
    refine ⟨by simp, ?_⟩
    exact Le.auto
  case round =>
    rintro n ⟨h1, h2⟩
    apply W.norm (by repeat (first | exact App.nil | apply App.cons))
    repeat' (first | ((first | apply U_ | (apply Ug_; exact rfl; exact rfl) | (apply Ugq_; exact rfl; exact rfl)); (first | exact QX.B TYok | exact QX.Len TYok | exact QX.Idx TYok | exact QX.Cut TYok); exact rfl) | refine SX.Lit TYok (h := ?_) | refine SX.App TYok (h := ?_) | (apply S_appendd TYok; exact Ev.auto; exact Ev.auto; exact rfl; exact rfl; exact rfl; exact rfl; exact rfl; exact rfl; exact rfl; exact rfl; (intro r hr; obtain ⟨_, _, rfl⟩ := List.mem_map.1 (List.mem_of_mem_take hr); rfl); (constructor <;> simp <;> omega); exact rfl) | refine SC ?_ | (apply S_isnil TYok; exact rfl; exact rfl; exact rfl; exact Ev.auto; intro bn hnil) | refine SG ?_ | (refine W.condA (ht := fun hb => ?_) (hf := fun hb => ?_) <;> (try simp at hb) <;> (try (exfalso; omega))))
    · refine ⟨n - 1, ⟨by omega, by rw [h2, trim_step' h1 hb.1 hb.2]⟩, ?_, by omega⟩
      exact Le.auto
    · rw [h2, trim_stop' h1 hb]
      exact FinO.ret rfl rfl (by simp)
theorem rtrim_ok (l : List Int) (hl : l.length ≤ 4000000) : ACalls Tryz.prog 123 [slI l] (.pv (slI (trimL l))) := (rtrim_own l hl).data rfl
theorem rdigit_ok (l : List Int) (i : Nat) : ACalls Tryz.prog 145 [slI l, cI i] (.pv (cI (vj l i))) := by
  refine ACalls.of_W (qs := [cI (vj l i)]) [4] 13 Tryz.func145 (by kernel_rfl) rfl rfl rfl fun G => ?_
  refine W.initA (hw := ?_)
  repeat' (first | ((first | apply U_); (first | exact QX.B TYok | exact QX.Len TYok | exact QX.Idx TYok); exact rfl) | refine SC ?_ | (refine W.condA (ht := fun hb => ?_) (hf := fun hb => ?_) <;> (try simp at hb) <;> (try (exfalso; omega))))
  · rw [vj_yes (by omega)]
    exact Fin.ret ResL.auto
  · rw [vj_no (by omega)]
    exact Fin.ret ResL.auto
theorem less_eq {a b : List Int} {n : Nat} (h : vj a n = vj b n) : (val (a.take (n + 1)) < val (b.take (n + 1)) ↔ val (a.take n) < val (b.take n)) := by
  rw [vj_take, vj_take, h]
  omega
theorem take_hi {a : List Int} (da : Dig a) (n : Nat) : 0 ≤ val (a.take n) ∧ val (a.take n) < pw n := by
  refine ⟨val_lo (da.take n), ?_⟩
  have h1 := val_hi (da.take n)
  have h2 := pw_mono (show (a.take n).length ≤ n by simp; omega)
  omega
theorem less_ne {a b : List Int} (da : Dig a) (db : Dig b) {n : Nat} (h : ¬ vj a n = vj b n) : (val (a.take (n + 1)) < val (b.take (n + 1)) ↔ vj a n < vj b n) := by
  have h1 := take_hi da n
  have h2 := take_hi db n
  have hp := pw_pos n
  rw [vj_take, vj_take]
  generalize vj a n = x at *
  generalize vj b n = y at *
  by_cases hxy : x < y
  · have : pw n * (x + 1) ≤ pw n * y := Int.mul_le_mul_of_nonneg_left (by omega) (by omega)
    rw [Int.mul_add] at this
    constructor <;> intro _ <;> omega
  · have : pw n * (y + 1) ≤ pw n * x := Int.mul_le_mul_of_nonneg_left (by omega) (by omega)
    rw [Int.mul_add] at this
    constructor <;> intro _ <;> omega
theorem rless_ok (a b : List Int) (da : Dig a) (db : Dig b) (hl : a.length ≤ 4000000) (hl' : b.length ≤ 4000000) : ACalls Tryz.prog 136 [slI a, slI b] (.pv (cB (decide (val a < val b)))) := by
  have h1 := rdigit_ok a
  have h2 := rdigit_ok b
  obtain ⟨m, hm⟩ : ∃ m : Nat, max (a.length : Int) b.length = m := ⟨max a.length b.length, by omega⟩
  refine ACalls.of_W (qs := [cB (decide (val a < val b))]) [4] 30 Tryz.func136 (by kernel_rfl) rfl rfl rfl fun G => ?_
  refine W.initA (hw := ?_)
  repeat' (first | ((first | apply U_); (first | exact QX.B TYok | exact QX.Num TYok | exact QX.Len TYok); exact rfl) | refine SC ?_ | (refine W.condA (ht := fun hb => ?_) (hf := fun hb => ?_) <;> (try simp at hb) <;> (try (exfalso; omega))))
  apply W.loopP (σ := Nat) 30 [0, 1] (fun n => n ≤ m ∧ (val a < val b ↔ val (a.take n) < val (b.take n))) (fun n => [(5, vI ((n : Int) - 1))]) (fun _ => []) (fun n => n) (m)
  case hp => repeat (first | exact Pick.nil | apply Pick.cons rfl)
  case h0 =>
    refine ⟨⟨by omega, by rw [List.take_of_length_le (by omega), List.take_of_length_le (by omega)]⟩, ?_⟩
    rw [hm]
    exact Le.auto
  case round =>
    rintro n ⟨g1, g2⟩
    apply W.norm (by repeat (first | exact App.nil | apply App.cons))
    cases n with
    | succ n =>
      have e1 : ((n + 1 : Nat) : Int) - 1 = n := by omega
      rw [e1]
      repeat' (first | ((first | apply U_); (first | exact QX.B TYok | exact QX.Num TYok | exact QX.Len TYok | exact QCl (h1 n) | exact QCl (h2 n)); exact rfl) | refine SC ?_ | (refine W.condA (ht := fun hb => ?_) (hf := fun hb => ?_) <;> (try simp at hb) <;> (try (exfalso; omega))))
      · rw [show decide (val a < val b) = decide (vj a n < vj b n) from decide_eq_decide.2 (g2.trans (less_ne da db hb))]
        exact Fin.ret ResL.auto
      · refine ⟨n, ⟨by omega, g2.trans (less_eq hb)⟩, ?_, by omega⟩
        exact Le.auto
    | zero =>
      repeat' (first | ((first | apply U_); (first | exact QX.B TYok | exact QX.Num TYok | exact QX.Len TYok); exact rfl) | refine SC ?_ | (refine W.condA (ht := fun hb => ?_) (hf := fun hb => ?_) <;> (try simp at hb) <;> (try (exfalso; omega))))
      rw [show decide (val a < val b) = false from decide_eq_false (fun h => by simpa using g2.1 h)]
      exact Fin.ret ResL.auto
structure PlusI (a b out : List Int) (i : Nat) (c : Int) : Prop where
  len : out.length = i
  dig : Dig out
  c0 : 0 ≤ c ∧ c ≤ 1
  top : a.length < i → b.length < i → c = 0
  eq : val out + pw i * c = val (a.take i) + val (b.take i)
theorem PlusI.step {a b out : List Int} {i : Nat} {c : Int} (h : PlusI a b out i c) (ha : Dig a) (hb : Dig b) {n : Int} (hn : n = vj a i + vj b i + c) :
    PlusI a b (out ++ [n % 1048576]) (i + 1) (n / 1048576) := by
  have h1 := vj_dig ha i
  have h2 := vj_dig hb i
  have h3 := h.c0
  refine ⟨by simp [h.len], h.dig.app (Dig.cons (by omega) Dig.nil), by omega, fun q1 q2 => ?_, ?_⟩
  · rw [vj_no (by omega)] at hn h1
    rw [vj_no (by omega)] at hn
    omega
  · have h4 := h.eq
    rw [val_app, val_one, h.len, vj_take, vj_take, pw]
    have h5 := Int.emod_add_mul_ediv n 1048576
    generalize n % 1048576 = r at h5 ⊢
    generalize n / 1048576 = q at h5 ⊢
    grind
theorem PlusI.done {a b out : List Int} {i : Nat} (h : PlusI a b out i 0) (h1 : a.length ≤ i) (h2 : b.length ≤ i) : trimL out = digs (val a + val b) := by
  refine trim_eq h.dig ?_
  have h3 := h.eq
  rw [List.take_of_length_le h1, List.take_of_length_le h2] at h3
  omega
theorem rplus_ok (a b : List Int) (da : Dig a) (db : Dig b) (hl : a.length ≤ 1000000) (hl' : b.length ≤ 1000000) : ACalls Tryz.prog 121 [slI a, slI b] (.pv (slI (digs (val a + val b)))) := by
  have h1 := rdigit_ok a
  have h2 := rdigit_ok b
  have key : ∀ (out : List Int) (i : Nat), i ≤ 2000000 → PlusI a b out i 0 → a.length ≤ i → b.length ≤ i → ACalls Tryz.prog 123 [slI out] (.pv (slI (digs (val a + val b)))) := fun out i hi h q1 q2 => by
    rw [← h.done q1 q2]; exact rtrim_ok out (by rw [h.len]; omega)
  refine ACalls.of_W (qs := [slI (digs (val a + val b))]) [4] 43 Tryz.func121 (by kernel_rfl) rfl rfl rfl fun G => ?_
  refine W.initA (hw := ?_)
  repeat' (first | ((first | apply U_ | (apply Ug_; exact rfl; exact rfl) | (apply Ugq_; exact rfl; exact rfl)); (first | exact QX.B TYok | exact QX.Len TYok); exact rfl) | refine SX.Lit TYok (h := ?_) | refine SX.App TYok (h := ?_) | refine SC ?_ | refine SG ?_ | (refine W.condA (ht := fun hb => ?_) (hf := fun hb => ?_) <;> (try simp at hb) <;> (try (exfalso; omega))))
  refine W.weaken (Le.nilOwn (t := 5) (n := 38) (E := 3) (sz := 1) rfl) ?_
  apply W.loopP (σ := Nat × Int × List Int) 43 [0, 1] (fun (i, c, out) => (i ≤ a.length + 1 ∨ i ≤ b.length + 1) ∧ PlusI a b out i c) (fun (i, c, out) => [(6, vI c), (7, vI i), (5, (True, .slc 38))]) (fun (i, c, out) => [(38, ⟨3, 1, out.map Lf.encI⟩)]) (fun (i, c, out) => a.length + b.length + 2 - i) ((0, 0, []))
  case hp => repeat (first | exact Pick.nil | apply Pick.cons rfl)
  case h0 =>
    refine ⟨⟨by simp, by simp, Dig.nil, by omega, by simp, by simp [val]⟩, ?_⟩
    exact Le.auto
  case round =>
    rintro ⟨i, c, out⟩ ⟨g1, g2⟩
    have g3 := g2.len
    have g4 := g2.c0
    have g5 := g2.top
    have d1 := vj_dig da i
    have d2 := vj_dig db i
    dsimp only at g1 ⊢
    apply W.norm (by repeat (first | exact App.nil | apply App.cons))
    by_cases hc : i < a.length ∨ i < b.length ∨ 0 < c
    · repeat' (first | ((first | apply U_ | (apply Ug_; exact rfl; exact rfl) | (apply Ugq_; exact rfl; exact rfl)); (first | exact QX.B TYok | exact QX.Len TYok | exact QCl (h1 i) | exact QCl (h2 i)); exact rfl) | refine SX.Lit TYok (h := ?_) | refine SX.App TYok (h := ?_) | refine SC ?_ | refine SG ?_ | (refine W.condA (ht := fun hb => ?_) (hf := fun hb => ?_) <;> (try simp at hb) <;> (try (exfalso; omega))))
      · refine ⟨(i + 1, (vj a i + vj b i + c) / 1048576, out ++ [(vj a i + vj b i + c) % 1048576]), ⟨by omega, g2.step da db rfl⟩, ?_, by (try simp only at *); (try dsimp only); omega⟩
        exact Le.auto
      all_goals (exfalso; omega)
    · obtain rfl : c = 0 := by omega
      have k1 := key out i (by omega) g2 (by omega) (by omega)
      repeat' (first | (refine W.weaken (Le.freeze1 (m := 38) rfl) ?_; apply W.region (id := 9)) | ((first | apply U_ | (apply Ug_; exact rfl; exact rfl) | (apply Ugq_; exact rfl; exact rfl)); (first | exact QX.B TYok | exact QX.Len TYok | exact QCd (k1)); exact rfl) | refine SX.Lit TYok (h := ?_) | refine SX.App TYok (h := ?_) | refine SC ?_ | refine SG ?_ | (refine W.condA (ht := fun hb => ?_) (hf := fun hb => ?_) <;> (try simp at hb) <;> (try (exfalso; omega))))
      all_goals first | exact Fin.ret ResL.auto | (exfalso; omega)
structure MinI (a b out : List Int) (i : Nat) (c : Int) : Prop where
  len : out.length = i
  dig : Dig out
  c0 : 0 ≤ c ∧ c ≤ 1
  eq : val out - pw i * c = val (a.take i) - val (b.take i)
theorem MinI.step {a b out : List Int} {i : Nat} {c : Int} (h : MinI a b out i c) (ha : Dig a) (hb : Dig b) {n r c' : Int} (hn : n = vj a i - vj b i - c) (hr : r = n + 1048576 * c') (hc : (n < 0 ∧ c' = 1) ∨ (0 ≤ n ∧ c' = 0)) :
    MinI a b (out ++ [r]) (i + 1) c' := by
  have h1 := vj_dig ha i
  have h2 := vj_dig hb i
  have h3 := h.c0
  refine ⟨by simp [h.len], h.dig.app (Dig.cons (by omega) Dig.nil), by omega, ?_⟩
  have h4 := h.eq
  rw [val_app, val_one, h.len, vj_take, vj_take, pw]
  generalize vj a i = x at *
  generalize vj b i = y at *
  generalize pw i = p at *
  subst hn; subst hr
  grind
theorem MinI.done {a b out : List Int} {c : Int} (h : MinI a b out a.length c) (hl : b.length ≤ a.length) (hv : val b ≤ val a) : trimL out = digs (val a - val b) := by
  have h1 := h.eq
  have h2 := val_hi h.dig
  rw [h.len] at h2
  rw [List.take_length, List.take_of_length_le hl] at h1
  refine trim_eq h.dig ?_
  have h3 : c = 0 ∨ c = 1 := by have := h.c0; omega
  rcases h3 with rfl | rfl
  · omega
  · rw [Int.mul_one] at h1; omega
theorem rminus_ok (a b : List Int) (da : Dig a) (db : Dig b) (hl : a.length ≤ 1000000) (hab : b.length ≤ a.length) (hv : val b ≤ val a) : ACalls Tryz.prog 122 [slI a, slI b] (.pv (slI (digs (val a - val b)))) := by
  have h2 := rdigit_ok b
  have key : ∀ (out : List Int) (c : Int), MinI a b out a.length c → ACalls Tryz.prog 123 [slI out] (.pv (slI (digs (val a - val b)))) := fun out c h => by
    rw [← h.done hab hv]; exact rtrim_ok out (by rw [h.len]; omega)
  refine ACalls.of_W (qs := [slI (digs (val a - val b))]) [4] 35 Tryz.func122 (by kernel_rfl) rfl rfl rfl fun G => ?_
  refine W.initA (hw := ?_)
  repeat' (first | ((first | apply U_ | apply Lex.u | (apply Lex.g; exact rfl; exact rfl) | (apply Lex.gq; exact rfl; exact rfl)); (first | exact QX.B TYok | exact QX.Len TYok | exact QX.Idx TYok); exact rfl) | refine SX.Lit TYok (h := ?_) | refine SX.App TYok (h := ?_) | refine SC ?_ | (apply W.draw2 (id := 6) [0, 0, 3, 7, 0, 0, 48, 127, 0, 511, 1023] [[0], [7], [15, 16], [17], [1], [7], [19, 20], [18, 21], [6], [22, 23], [24]] 11 [(15, 1), (16, 128), (17, 98304), (18, 131072), (19, 2), (20, 128), (21, 1572864), (22, 2359296), (23, 64), (24, 12582912), (8, 16777216)] mixed (by kernel_rfl) rfl rfl) | (refine W.condA (ht := fun hb => ?_) (hf := fun hb => ?_) <;> (try simp at hb) <;> (try (exfalso; omega))))
  refine W.weaken (Le.nilOwn (t := 5) (n := 32) (E := 3) (sz := 1) rfl) ?_
  apply W.loopP (σ := Nat × Int × List Int) 35 [0, 1] (fun (i, c, out) => i ≤ a.length ∧ MinI a b out i c) (fun (i, c, out) => [(6, vI c), (7, vI i), (5, (True, .slc 32))]) (fun (i, c, out) => [(32, ⟨3, 1, out.map Lf.encI⟩)]) (fun (i, c, out) => a.length - i) ((0, 0, []))
  case hp => repeat (first | exact Pick.nil | apply Pick.cons rfl)
  case h0 =>
    refine ⟨⟨by simp, by simp, Dig.nil, by omega, by simp [val]⟩, ?_⟩
    exact Le.auto
  case round =>
    rintro ⟨i, c, out⟩ ⟨g1, g2⟩
    have g3 := g2.len
    have g4 := g2.c0
    have d1 := vj_dig da i
    have d2 := vj_dig db i
    dsimp only at g1 ⊢
    apply W.norm (by repeat (first | exact App.nil | apply App.cons))
    by_cases hi : i < a.length
    · rw [vj_yes hi] at d1
      repeat' (first | ((first | apply U_ | apply Lex.u | (apply Lex.g; exact rfl; exact rfl) | (apply Lex.gq; exact rfl; exact rfl)); (first | exact QX.B TYok | exact QX.Len TYok | exact QX.Idx TYok | exact QCl (h2 i)); exact rfl) | refine SX.Lit TYok (h := ?_) | refine SX.App TYok (h := ?_) | refine SC ?_ | (apply W.draw2 (id := 6) [0, 0, 3, 7, 0, 0, 48, 127, 0, 511, 1023] [[0], [7], [15, 16], [17], [1], [7], [19, 20], [18, 21], [6], [22, 23], [24]] 11 [(15, 1), (16, 128), (17, 98304), (18, 131072), (19, 2), (20, 128), (21, 1572864), (22, 2359296), (23, 64), (24, 12582912), (8, 16777216)] mixed (by kernel_rfl) rfl rfl) | (refine W.condA (ht := fun hb => ?_) (hf := fun hb => ?_) <;> (try simp at hb) <;> (try (exfalso; omega))))
      · refine ⟨(i + 1, 1, out ++ [nth a i - vj b i - c + 1048576]), ⟨by omega, g2.step (c' := 1) da db (by rw [vj_yes hi]) (by omega) (.inl ⟨hb, rfl⟩)⟩, ?_, by (try simp only at *); (try dsimp only); omega⟩
        exact Le.auto
      · refine ⟨(i + 1, 0, out ++ [nth a i - vj b i - c]), ⟨by omega, g2.step (c' := 0) da db (by rw [vj_yes hi]) (by omega) (.inr ⟨by omega, rfl⟩)⟩, ?_, by (try simp only at *); (try dsimp only); omega⟩
        exact Le.auto
    · obtain rfl : i = a.length := by omega
      have k1 := key out c g2
      repeat' (first | (refine W.weaken (Le.freeze1 (m := 32) rfl) ?_; apply W.region (id := 12)) | ((first | apply U_ | apply Lex.u | (apply Lex.g; exact rfl; exact rfl) | (apply Lex.gq; exact rfl; exact rfl)); (first | exact QX.B TYok | exact QX.Len TYok | exact QX.Idx TYok | exact QCd (k1)); exact rfl) | refine SX.Lit TYok (h := ?_) | refine SX.App TYok (h := ?_) | refine SC ?_ | (apply W.draw2 (id := 6) [0, 0, 3, 7, 0, 0, 48, 127, 0, 511, 1023] [[0], [7], [15, 16], [17], [1], [7], [19, 20], [18, 21], [6], [22, 23], [24]] 11 [(15, 1), (16, 128), (17, 98304), (18, 131072), (19, 2), (20, 128), (21, 1572864), (22, 2359296), (23, 64), (24, 12582912), (8, 16777216)] mixed (by kernel_rfl) rfl rfl) | (refine W.condA (ht := fun hb => ?_) (hf := fun hb => ?_) <;> (try simp at hb) <;> (try (exfalso; omega))))
      exact Fin.ret ResL.auto
end Go.Proofs.YtjedkgogjehigaaGreat
end
section
set_option linter.unusedVariables false
set_option linter.unusedSimpArgs false
set_option maxHeartbeats 8000000
set_option linter.unusedSectionVars false
namespace Go.Proofs.YtjedkgogjehigaaGreat
open Lf Go
attribute [local irreducible] PureOp EffOp Ev RG W Then InBlock Lf.Fin nth App InitE Pick SubE EvL EvD EvP EvR ResL Lf.Lex SubR SubBR RA RAll EvC FinO FinM ResM ResD FinS val pw digs trimL
structure TimK (a b out : List Int) (i k : Nat) (c : Int) : Prop where
  len : out.length = a.length + b.length
  dig : Dig out
  c0 : 0 ≤ c ∧ c < 1048576
  top : b.length < k → c = 0
  eq : val out + pw (i + k) * c = val (a.take i) * val b + nth a i * (pw i * val (b.take k))
  high : k ≤ b.length → nth out (i + b.length) = 0
  high2 : ∀ j, i + 1 + b.length ≤ j → j < out.length → nth out j = 0
theorem TimK.step {a b out : List Int} {i k : Nat} {c : Int} (h : TimK a b out i k c) (hi : i < a.length) (hk : k ≤ b.length) (ha : Dig a) (hb : Dig b) {n : Int} (hn : n = nth out (i + k) + nth a i * vj b k + c) :
    TimK a b (out.set (i + k) (n % 1048576)) i (k + 1) (n / 1048576) := by
  have h1 := h.len
  have h2 := h.dig.nth (show i + k < out.length by omega)
  have h3 := mul_le (ha.nth hi) (vj_dig hb k)
  have h4 := h.c0
  have h5 := h.eq
  have h0 : k = b.length → n = c := fun e => by
    subst e
    rw [hn, h.high (by omega), vj_no (by omega)]; omega
  refine ⟨by simp [h1], h.dig.set (by omega), by omega, fun q => ?_, ?_, fun q => ?_, fun j hj hj2 => ?_⟩
  · have := h0 (by omega); omega
  · rw [val_set (by omega), show i + (k + 1) = (i + k) + 1 by omega, pw, vj_take]
    have h6 := Int.emod_add_mul_ediv n 1048576
    have h7 := pw_add k i
    generalize n % 1048576 = r at h6 ⊢
    generalize n / 1048576 = q at h6 ⊢
    generalize nth out (i + k) = o at hn ⊢
    generalize nth a i = x at *
    generalize vj b k = y at *
    generalize pw (i + k) = p at *
    generalize val (b.take k) = w at *
    generalize val (a.take i) * val b = u at *
    subst h7
    have e : n = o + x * y + c := hn
    have e2 : r = n - 1048576 * q := by omega
    subst e2
    subst e
    grind
  · rw [nth_set_ne (by omega)]
    exact h.high hk
  · rw [nth_set_ne (by omega)]
    exact h.high2 j hj (by simpa using hj2)
theorem TimK.done {a b out : List Int} {i k : Nat} (h : TimK a b out i k 0) (hi : i < a.length) (hk : b.length ≤ k) : MulI a b out (i + 1) := by
  refine ⟨h.len, h.dig, ?_, fun j hj hj2 => h.high2 j (by omega) hj2⟩
  have h5 := h.eq
  rw [val_take hi]
  rw [List.take_of_length_le hk] at h5
  generalize pw i = p at *
  generalize val (a.take i) = u at *
  grind
theorem rtimes_ok (a b : List Int) (da : Dig a) (db : Dig b) (hl : a.length ≤ 1000000) (hl' : b.length ≤ 1000000) : ACalls Tryz.prog 138 [slI a, slI b] (.pv (slI (digs (val a * val b)))) := by
  have h2 := rdigit_ok b
  have key : ∀ (out : List Int), MulI a b out a.length → ACalls Tryz.prog 123 [slI out] (.pv (slI (digs (val a * val b)))) := fun out h => by
    rw [← trim_eq h.dig (by rw [h.eq, List.take_length])]; exact rtrim_ok out (by rw [h.len]; omega)
  refine ACalls.of_W (qs := [slI (digs (val a * val b))]) [4] 60 Tryz.func138 (by kernel_rfl) rfl rfl rfl fun G => ?_
  refine W.initA (hw := ?_)
  repeat' (first | ((first | apply U_ | (apply Ug_; exact rfl; exact rfl) | (apply Ugq_; exact rfl; exact rfl) | apply Lex.u | (apply Lex.g; exact rfl; exact rfl) | (apply Lex.gq; exact rfl; exact rfl)); (first | exact QX.B TYok | exact QX.Len TYok | exact QX.Idx TYok); exact rfl) | refine SX.Store TYok (h := ?_) | refine SX.Make TYok (h := ?_) | refine SC ?_ | refine SG ?_ | (apply W.draw2 (id := 9) [0, 0, 0, 6, 15, 31, 0, 0, 192, 448, 0, 0, 3072, 8128, 16383, 0, 65535, 131071] [[5], [6], [8], [33, 34], [32, 35], [36], [0], [6], [38, 39], [40], [1], [8], [42, 43], [41, 44], [37, 45], [7], [46, 47], [48]] 18 [(32, 32), (33, 64), (34, 256), (35, 25769803776), (36, 38654705664), (37, 68719476736), (38, 1), (39, 64), (40, 824633720832), (41, 1099511627776), (42, 2), (43, 256), (44, 13194139533312), (45, 19791209299968), (46, 35321811042304), (47, 128), (48, 211106232532992), (9, 281474976710656)] mixed (by kernel_rfl) rfl rfl) | (refine W.condA (ht := fun hb => ?_) (hf := fun hb => ?_) <;> (try simp at hb) <;> (try (exfalso; omega))))
  apply W.loopP (σ := Nat × List Int) 60 [0, 1] (fun (i, out) => i ≤ a.length ∧ MulI a b out i) (fun (i, out) => [(6, vI i), (5, (True, .slc 15))]) (fun (i, out) => [(15, ⟨3, 1, out.map Lf.encI⟩)]) (fun (i, out) => a.length - i) ((0, List.replicate (a.length + b.length) 0))
  case hp => repeat (first | exact Pick.nil | apply Pick.cons rfl)
  case h0 =>
    refine ⟨⟨by simp, by simp, Dig.rep _, by simp [val, val_rep], fun j hj hj2 => ?_⟩, ?_⟩
    · simp at hj2; simp [nth, hj2]
    exact Le.auto
  case round =>
    rintro ⟨i, out⟩ ⟨g1, g2⟩
    have g3 := g2.len
    dsimp only at g1 ⊢
    apply W.norm (by repeat (first | exact App.nil | apply App.cons))
    by_cases hi : i < a.length
    · have g5 := da.nth hi
      repeat' (first | ((first | apply U_ | (apply Ug_; exact rfl; exact rfl) | (apply Ugq_; exact rfl; exact rfl) | apply Lex.u | (apply Lex.g; exact rfl; exact rfl) | (apply Lex.gq; exact rfl; exact rfl)); (first | exact QX.B TYok | exact QX.Len TYok | exact QX.Idx TYok); exact rfl) | refine SX.Store TYok (h := ?_) | refine SX.Make TYok (h := ?_) | refine SC ?_ | refine SG ?_ | (apply W.draw2 (id := 9) [0, 0, 0, 6, 15, 31, 0, 0, 192, 448, 0, 0, 3072, 8128, 16383, 0, 65535, 131071] [[5], [6], [8], [33, 34], [32, 35], [36], [0], [6], [38, 39], [40], [1], [8], [42, 43], [41, 44], [37, 45], [7], [46, 47], [48]] 18 [(32, 32), (33, 64), (34, 256), (35, 25769803776), (36, 38654705664), (37, 68719476736), (38, 1), (39, 64), (40, 824633720832), (41, 1099511627776), (42, 2), (43, 256), (44, 13194139533312), (45, 19791209299968), (46, 35321811042304), (47, 128), (48, 211106232532992), (9, 281474976710656)] mixed (by kernel_rfl) rfl rfl) | (refine W.condA (ht := fun hb => ?_) (hf := fun hb => ?_) <;> (try simp at hb) <;> (try (exfalso; omega))))
      apply W.loopP (σ := Nat × Int × List Int) 60 [0, 1, 6] (fun (k, c, out) => k ≤ b.length + 1 ∧ TimK a b out i k c) (fun (k, c, out) => [(8, vI k), (7, vI c), (5, (True, .slc 15))]) (fun (k, c, out) => [(15, ⟨3, 1, out.map Lf.encI⟩)]) (fun (k, c, out) => b.length + 1 - k) ((0, 0, out))
      case hp => repeat (first | exact Pick.nil | apply Pick.cons rfl)
      case h0 =>
        refine ⟨⟨by simp, g2.len, g2.dig, by omega, fun q => by simp at q, by rw [g2.eq]; simp [val], fun _ => g2.high _ (by omega) (by omega), fun j hj hj2 => g2.high j (by omega) hj2⟩, ?_⟩
        exact Le.auto
      case round =>
        rintro ⟨k, c, out⟩ ⟨f1, f2⟩
        have f3 := f2.len
        have f4 := f2.c0
        have f8 := f2.top
        dsimp only at f1 ⊢
        apply W.norm (by repeat (first | exact App.nil | apply App.cons))
        by_cases hk : k < b.length ∨ 0 < c
        · have hk2 : k ≤ b.length := by omega
          have f5 := mul_le g5 (vj_dig db k)
          have f6 := f2.dig.nth (show i + k < out.length by omega)
          have f7 : 0 ≤ nth out ((i : Int) + (k : Int)).toNat ∧ nth out ((i : Int) + (k : Int)).toNat < 1048576 := f6
          repeat' (first | ((first | apply U_ | (apply Ug_; exact rfl; exact rfl) | (apply Ugq_; exact rfl; exact rfl) | apply Lex.u | (apply Lex.g; exact rfl; exact rfl) | (apply Lex.gq; exact rfl; exact rfl)); (first | exact QX.B TYok | exact QX.Len TYok | exact QX.Idx TYok | exact QCl (h2 k)); exact rfl) | refine SX.Store TYok (h := ?_) | refine SX.Make TYok (h := ?_) | refine SC ?_ | refine SG ?_ | (apply W.draw2 (id := 9) [0, 0, 0, 6, 15, 31, 0, 0, 192, 448, 0, 0, 3072, 8128, 16383, 0, 65535, 131071] [[5], [6], [8], [33, 34], [32, 35], [36], [0], [6], [38, 39], [40], [1], [8], [42, 43], [41, 44], [37, 45], [7], [46, 47], [48]] 18 [(32, 32), (33, 64), (34, 256), (35, 25769803776), (36, 38654705664), (37, 68719476736), (38, 1), (39, 64), (40, 824633720832), (41, 1099511627776), (42, 2), (43, 256), (44, 13194139533312), (45, 19791209299968), (46, 35321811042304), (47, 128), (48, 211106232532992), (9, 281474976710656)] mixed (by kernel_rfl) rfl rfl) | (refine W.condA (ht := fun hb => ?_) (hf := fun hb => ?_) <;> (try simp at hb) <;> (try (exfalso; omega))))
          · refine ⟨(k + 1, (nth out (i + k) + nth a i * vj b k + c) / 1048576, out.set (i + k) ((nth out (i + k) + nth a i * vj b k + c) % 1048576)), ⟨by omega, f2.step hi hk2 da db rfl⟩, ?_, by (try dsimp only); omega⟩
            exact Le.auto
          all_goals (exfalso; omega)
        · obtain rfl : c = 0 := by omega
          repeat' (first | ((first | apply U_ | (apply Ug_; exact rfl; exact rfl) | (apply Ugq_; exact rfl; exact rfl) | apply Lex.u | (apply Lex.g; exact rfl; exact rfl) | (apply Lex.gq; exact rfl; exact rfl)); (first | exact QX.B TYok | exact QX.Len TYok | exact QX.Idx TYok); exact rfl) | refine SX.Store TYok (h := ?_) | refine SX.Make TYok (h := ?_) | refine SC ?_ | refine SG ?_ | (apply W.draw2 (id := 9) [0, 0, 0, 6, 15, 31, 0, 0, 192, 448, 0, 0, 3072, 8128, 16383, 0, 65535, 131071] [[5], [6], [8], [33, 34], [32, 35], [36], [0], [6], [38, 39], [40], [1], [8], [42, 43], [41, 44], [37, 45], [7], [46, 47], [48]] 18 [(32, 32), (33, 64), (34, 256), (35, 25769803776), (36, 38654705664), (37, 68719476736), (38, 1), (39, 64), (40, 824633720832), (41, 1099511627776), (42, 2), (43, 256), (44, 13194139533312), (45, 19791209299968), (46, 35321811042304), (47, 128), (48, 211106232532992), (9, 281474976710656)] mixed (by kernel_rfl) rfl rfl) | (refine W.condA (ht := fun hb => ?_) (hf := fun hb => ?_) <;> (try simp at hb) <;> (try (exfalso; omega))))
          refine ⟨(i + 1, out), ⟨by omega, f2.done hi (by omega)⟩, ?_, by (try dsimp only); omega⟩
          exact Le.auto
    · obtain rfl : i = a.length := by omega
      have k1 := key out g2
      repeat' (first | (refine W.weaken (Le.freeze1 (m := 15) rfl) ?_; apply W.region (id := 12)) | ((first | apply U_ | (apply Ug_; exact rfl; exact rfl) | (apply Ugq_; exact rfl; exact rfl) | apply Lex.u | (apply Lex.g; exact rfl; exact rfl) | (apply Lex.gq; exact rfl; exact rfl)); (first | exact QX.B TYok | exact QX.Len TYok | exact QX.Idx TYok | exact QCd (k1)); exact rfl) | refine SX.Store TYok (h := ?_) | refine SX.Make TYok (h := ?_) | refine SC ?_ | refine SG ?_ | (apply W.draw2 (id := 9) [0, 0, 0, 6, 15, 31, 0, 0, 192, 448, 0, 0, 3072, 8128, 16383, 0, 65535, 131071] [[5], [6], [8], [33, 34], [32, 35], [36], [0], [6], [38, 39], [40], [1], [8], [42, 43], [41, 44], [37, 45], [7], [46, 47], [48]] 18 [(32, 32), (33, 64), (34, 256), (35, 25769803776), (36, 38654705664), (37, 68719476736), (38, 1), (39, 64), (40, 824633720832), (41, 1099511627776), (42, 2), (43, 256), (44, 13194139533312), (45, 19791209299968), (46, 35321811042304), (47, 128), (48, 211106232532992), (9, 281474976710656)] mixed (by kernel_rfl) rfl rfl) | (refine W.condA (ht := fun hb => ?_) (hf := fun hb => ?_) <;> (try simp at hb) <;> (try (exfalso; omega))))
      exact Fin.ret ResL.auto
theorem ShortI.step2 {a out : List Int} {d : Int} {i : Nat} {r q : Int} (h : ShortI a out d (i + 1) r) (hi : i < a.length) (ha : Dig a) (hd : 0 < d) (hq : q = (r * 1048576 + nth a i) / d) :
    ShortI a (out.set i q) d i ((r * 1048576 + nth a i) % d) := by
  subst hq
  have h1 := h.len
  have h2 := ha.nth hi
  have h3 := h.r0
  have h4 := h.eq
  have hq0 : 0 ≤ (r * 1048576 + nth a i) / d := Int.ediv_nonneg (by omega) (by omega)
  have hq1 : (r * 1048576 + nth a i) / d < 1048576 := Int.ediv_lt_of_lt_mul hd (by omega)
  refine ⟨by simp [h1], h.dig.set ⟨hq0, hq1⟩, ⟨Int.emod_nonneg _ (by omega), Int.emod_lt_of_pos _ hd⟩, ?_⟩
  rw [val_drop hi, val_drop (l := out.set i ((r * 1048576 + nth a i) / d)) (i := i) (by rw [List.length_set]; omega), nth_set_self (by omega), drop_set_gt]
  have h6 := Int.emod_add_mul_ediv (r * 1048576 + nth a i) d
  generalize (r * 1048576 + nth a i) % d = x at *
  generalize (r * 1048576 + nth a i) / d = y at *
  grind
theorem quo_between {x d lo hi : Int} (hd : 0 < d) (h1 : lo * d ≤ x) (h2 : x < hi * d) (h3 : hi - lo ≤ 1) (h4 : lo < hi) : lo = x / d ∧ x - d * lo = x % d := by
  obtain rfl : hi = lo + 1 := by omega
  have e : x / d = lo := by
    have a1 : lo ≤ x / d := (Int.le_ediv_iff_mul_le hd).2 h1
    have a2 : x / d < lo + 1 := Int.ediv_lt_of_lt_mul hd h2
    omega
  refine ⟨e.symm, ?_⟩
  have := Int.emod_add_mul_ediv x d
  rw [e] at this
  omega
theorem rover_ok (a b : List Int) (da : Dig a) (db : Dig b) (hl : a.length ≤ 1000000) (hl' : b.length ≤ 900000) (h0 : 0 < val b) : ACalls Tryz.prog 120 [slI a, slI b] (.tup [slI (digs (val a / val b)), slI (digs (val a % val b))]) := by
  have key : ∀ (out : List Int) (r : Int), ShortI a out (val b) 0 r → ACalls Tryz.prog 123 [slI out] (.pv (slI (digs (val a / val b)))) := fun out r h => by
    rw [← h.done.1]; exact rtrim_ok out (by rw [h.len]; omega)
  have k29 : ∀ x r : Int, 0 ≤ x → x < 1048576 → 0 ≤ r → r < val b → ACalls Tryz.prog 123 [slI (x :: digs r)] (.pv (slI (digs (r * 1048576 + x)))) := fun x r h1 h2 h3 h4 => by
    have hlr : (digs r).length ≤ b.length := (digs_len h3).2 (by have := val_hi db; omega)
    rw [← trim_eq (l := x :: digs r) (x := r * 1048576 + x) (Dig.cons ⟨h1, h2⟩ (digs_norm r).dig) (by rw [val, val_digs h3]; omega)]
    exact rtrim_ok _ (by simp; omega)
  have k42 : ∀ m : Int, 0 ≤ m → m < 1048576 → ACalls Tryz.prog 138 [slI b, slI [m]] (.pv (slI (digs (val b * m)))) := fun m h1 h2 => by
    have := rtimes_ok b [m] db (Dig.cons ⟨h1, h2⟩ Dig.nil) (by omega) (by simp)
    rwa [val_one] at this
  have k54 : ∀ m : Int, 0 ≤ m → m < 1048576 → ACalls Tryz.prog 123 [slI [m]] (.pv (slI (digs m))) := fun m h1 h2 => by
    rw [← trim_eq (l := [m]) (Dig.cons ⟨h1, h2⟩ Dig.nil) (val_one m)]
    exact rtrim_ok [m] (by simp)
  have k55 : ∀ m : Int, 0 ≤ m → m < 1048576 → ACalls Tryz.prog 138 [slI b, slI (digs m)] (.pv (slI (digs (val b * m)))) := fun m h1 h2 => by
    have := rtimes_ok b (digs m) db (digs_norm m).dig (by omega) (by have := (digs_len h1 (n := 1)).2 (by simpa [pw] using h2); omega)
    rwa [val_digs h1] at this
  have lp : ∀ y : Int, 0 ≤ y → y < 1048576 * val b → (digs y).length ≤ b.length + 1 := fun y h1 h2 => (digs_len h1).2 (by
    have := val_hi db
    have := pw_succ b.length
    omega)
  have k43 : ∀ x y : Int, 0 ≤ x → x < 1048576 * val b → 0 ≤ y → y < 1048576 * val b → ACalls Tryz.prog 136 [slI (digs x), slI (digs y)] (.pv (cB (decide (x < y)))) := fun x y h1 h2 h3 h4 => by
    have e1 := lp x h1 h2
    have e2 := lp y h3 h4
    have := rless_ok (digs x) (digs y) (digs_norm x).dig (digs_norm y).dig (by omega) (by omega)
    rwa [val_digs h1, val_digs h3] at this
  have k56 : ∀ x y : Int, 0 ≤ y → y ≤ x → x < 1048576 * val b → ACalls Tryz.prog 122 [slI (digs x), slI (digs y)] (.pv (slI (digs (x - y)))) := fun x y h1 h2 h3 => by
    have e1 := lp x (by omega) h3
    have := rminus_ok (digs x) (digs y) (digs_norm x).dig (digs_norm y).dig (by omega) (digs_mono h1 h2) (by rw [val_digs h1, val_digs (by omega)]; omega)
    rwa [val_digs h1, val_digs (by omega)] at this
  refine ACalls.of_W (qs := [slI (digs (val a / val b)), slI (digs (val a % val b))]) [4, 5] 60 Tryz.func120 (by kernel_rfl) rfl rfl rfl fun G => ?_
  refine W.initA (hw := ?_)
  repeat' (first | ((first | apply U_); (first | exact QX.B TYok | exact QX.Len TYok | exact QX.Idx TYok); exact rfl) | refine SX.Store TYok (h := ?_) | refine SX.Lit TYok (h := ?_) | refine SX.Make TYok (h := ?_) | refine SX.App TYok (h := ?_) | refine SC ?_ | (refine W.condA (ht := fun hb => ?_) (hf := fun hb => ?_) <;> (try simp at hb) <;> (try (exfalso; omega))))
  refine W.weaken (Le.sub (t := 7) (q := True) (p' := slI (digs 0)) rfl (by rw [digs_zero]; exact PSub.nil')) ?_
  apply W.loopP (σ := Nat × Int × List Int) 60 [0, 1] (fun (i, r, out) => i ≤ a.length ∧ ShortI a out (val b) i r) (fun (i, r, out) => [(8, vI ((i : Int) - 1)), (7, (True, .pv (slI (digs r)))), (6, (True, .slc 14))]) (fun (i, r, out) => [(14, ⟨3, 1, out.map Lf.encI⟩)]) (fun (i, r, out) => i) ((a.length, 0, List.replicate a.length 0))
  case hp => repeat (first | exact Pick.nil | apply Pick.cons rfl)
  case h0 =>
    refine ⟨⟨by simp, by simp, Dig.rep _, by omega, by simp [val]⟩, ?_⟩
    exact Le.auto
  case round =>
    rintro ⟨i, r, out⟩ ⟨g1, g2⟩
    have g3 := g2.len
    have g4 := g2.r0
    dsimp only at g1 g2 ⊢
    apply W.norm (by repeat (first | exact App.nil | apply App.cons))
    cases i with
    | succ i =>
      have hia : i < a.length := by omega
      have e1 : ((i + 1 : Nat) : Int) - 1 = i := by omega
      have g5 := da.nth hia
      rw [e1]
      have hlr : (digs r).length ≤ b.length := (digs_len g4.1).2 (by have := val_hi db; omega)
      have c29 := k29 (nth a i) r g5.1 g5.2 g4.1 g4.2
      have x0 : 0 ≤ r * 1048576 + nth a i := by omega
      have x1 : r * 1048576 + nth a i < 1048576 * val b := by omega
      repeat' (first | (refine RG.weaken (Le.freeze1 (m := 28) rfl) ?_) | ((first | apply U_); (first | exact QX.B TYok | exact QX.Len TYok | exact QX.Idx TYok | exact QCd (c29)); exact rfl) | refine SX.Store TYok (h := ?_) | refine SX.Lit TYok (h := ?_) | refine SX.Make TYok (h := ?_) | refine SX.App TYok (h := ?_) | refine SC ?_ | (refine W.condA (ht := fun hb => ?_) (hf := fun hb => ?_) <;> (try simp at hb) <;> (try (exfalso; omega))))
      apply W.loopP (σ := Int × Int) 60 [0, 1, 6, 7, 8] (fun (lo, hi) => 0 ≤ lo ∧ lo < hi ∧ hi ≤ 1048576 ∧ lo * val b ≤ r * 1048576 + nth a i ∧ r * 1048576 + nth a i < hi * val b) (fun (lo, hi) => [(9, vI lo), (10, vI hi)]) (fun _ => [(14, ⟨3, 1, out.map Lf.encI⟩)]) (fun (lo, hi) => (hi - lo).toNat) ((0, 1048576))
      case hp => repeat (first | exact Pick.nil | apply Pick.cons rfl)
      case h0 =>
        refine ⟨⟨by omega, by omega, by omega, by omega, by omega⟩, ?_⟩
        exact Le.auto
      case round =>
        rintro ⟨lo, hi⟩ ⟨f1, f2, f3, f4, f5⟩
        dsimp only at f1 f2 f3 f4 f5 ⊢
        apply W.norm (by repeat (first | exact App.nil | apply App.cons))
        by_cases hc : hi - lo > 1
        · have m1 : lo < (lo + hi) / 2 ∧ (lo + hi) / 2 < hi := by omega
          have c42 := k42 ((lo + hi) / 2) (by omega) (by omega)
          have hv : 0 ≤ val b * ((lo + hi) / 2) ∧ val b * ((lo + hi) / 2) < 1048576 * val b := by
            refine ⟨Int.mul_nonneg (by omega) (by omega), ?_⟩
            rw [Int.mul_comm]
            exact Int.mul_lt_mul_of_pos_right (by omega) h0
          have c43 := k43 (r * 1048576 + nth a i) (val b * ((lo + hi) / 2)) x0 x1 hv.1 hv.2
          repeat' (first | ((first | apply U_); (first | (apply Q_litD TYok; (repeat (first | exact EvR.nil | apply EvR.cons Ev.auto)); exact rfl; exact rfl; exact rfl; exact rfl; exact rfl; exact rfl) | exact QX.B TYok | exact QX.Len TYok | exact QX.Idx TYok | exact QCd (c42) | exact QCd (c43)); exact rfl) | refine SX.Store TYok (h := ?_) | refine SX.Lit TYok (h := ?_) | refine SX.Make TYok (h := ?_) | refine SX.App TYok (h := ?_) | refine SC ?_ | (refine W.condA (ht := fun hb => ?_) (hf := fun hb => ?_) <;> (try simp at hb) <;> (try (exfalso; omega))))
          · refine ⟨(lo, (lo + hi) / 2), ⟨by omega, by omega, by omega, f4, Int.mul_comm (val b) _ ▸ hb⟩, ?_, by (try dsimp only); omega⟩
            exact Le.auto
          · refine ⟨((lo + hi) / 2, hi), ⟨by omega, by omega, by omega, by rw [Int.mul_comm (_ : Int) (val b)]; dsimp only; omega, f5⟩, ?_, by (try dsimp only); omega⟩
            exact Le.auto
        · obtain ⟨e2, e3⟩ := quo_between h0 f4 f5 (by omega) f2
          have g6 := g2.step2 (q := lo) hia da h0 e2
          have c54 := k54 lo f1 (by omega)
          have c55 := k55 lo f1 (by omega)
          have c56 := k56 (r * 1048576 + nth a i) (val b * lo) (Int.mul_nonneg (by omega) f1) (by rw [Int.mul_comm]; exact f4) x1
          rw [e3] at c56
          repeat' (first | ((first | apply U_); (first | (apply Q_litD TYok; (repeat (first | exact EvR.nil | apply EvR.cons Ev.auto)); exact rfl; exact rfl; exact rfl; exact rfl; exact rfl; exact rfl) | exact QX.B TYok | exact QX.Len TYok | exact QX.Idx TYok | exact QCd (c54) | exact QCd (c55) | exact QCd (c56)); exact rfl) | refine SX.Store TYok (h := ?_) | refine SX.Lit TYok (h := ?_) | refine SX.Make TYok (h := ?_) | refine SX.App TYok (h := ?_) | refine SC ?_ | (refine W.condA (ht := fun hb => ?_) (hf := fun hb => ?_) <;> (try simp at hb) <;> (try (exfalso; omega))))
          refine ⟨(i, (r * 1048576 + nth a i) % val b, out.set i lo), ⟨by omega, g6⟩, ?_, by (try dsimp only); omega⟩
          exact Le.auto
    | zero =>
      have k1 := key out r g2
      repeat' (first | (refine W.weaken (Le.freeze1 (m := 14) rfl) ?_; apply W.region (id := 16)) | ((first | apply U_); (first | exact QX.B TYok | exact QX.Len TYok | exact QX.Idx TYok | exact QCd (k1)); exact rfl) | refine SX.Store TYok (h := ?_) | refine SX.Lit TYok (h := ?_) | refine SX.Make TYok (h := ?_) | refine SX.App TYok (h := ?_) | refine SC ?_ | (refine W.condA (ht := fun hb => ?_) (hf := fun hb => ?_) <;> (try simp at hb) <;> (try (exfalso; omega))))
      rw [← g2.done.2]
      exact Fin.ret ResL.auto
end Go.Proofs.YtjedkgogjehigaaGreat
end
section
set_option linter.unusedVariables false
set_option linter.unusedSimpArgs false
set_option maxHeartbeats 8000000
set_option linter.unusedSectionVars false
namespace Go.Proofs.YtjedkgogjehigaaGreat
open Lf Go
attribute [local irreducible] PureOp EffOp Ev RG W Then InBlock Lf.Fin nth App InitE Pick SubE EvL EvD EvP EvR ResL Lf.Lex SubR SubBR RA RAll EvC FinO FinM ResM ResD FinS val pw digs trimL
theorem rright_ok (s : Int) (l : List Int) (hl : l.length ≤ 9223372036854775807) : ACalls Tryz.prog 87 [aB s l] (.pv (cB (rightB s l))) := by
  refine ACalls.of_W (qs := [cB (rightB s l)]) [2] 60 Tryz.func87 (by kernel_rfl) rfl rfl rfl fun G => ?_
  refine W.initA (hw := ?_)
  repeat' (first | ((first | apply U_ | (apply Ug_; exact rfl; exact rfl) | (apply Ugq_; exact rfl; exact rfl)); (first | exact QX.B TYok | exact QX.Len TYok | exact QX.Idx TYok); exact rfl) | refine SX.Box TYok (h := ?_) | refine SC ?_ | (apply S_isnil TYok; exact rfl; exact rfl; exact rfl; exact Ev.auto; intro bn hnil) | refine SG ?_ | (refine W.condA (ht := fun hb => ?_) (hf := fun hb => ?_) <;> (try simp at hb) <;> (try (exfalso; omega))))
  apply W.loopP (σ := Nat) 60 [1] (fun k => k ≤ l.length ∧ l.all digB = (l.drop k).all digB) (fun k => [(3, vI k)]) (fun _ => [(1, ⟨38, 2, [[.int .i64 s, .sl (l.map Lf.encI)]]⟩)]) (fun k => l.length - k) (0)
  case hp => repeat (first | exact Pick.nil | apply Pick.cons rfl)
  case h0 =>
    refine ⟨by simp, ?_⟩
    exact Le.auto
  case round =>
    rintro k ⟨g1, g2⟩
    apply W.norm (by repeat (first | exact App.nil | apply App.cons))
    by_cases hk : k < l.length
    · have e : l.all digB = (digB (nth l k) && (l.drop (k + 1)).all digB) := by rw [g2, drop_nth hk, List.all_cons]
      repeat' (first | ((first | apply U_ | (apply Ug_; exact rfl; exact rfl) | (apply Ugq_; exact rfl; exact rfl)); (first | exact QX.B TYok | exact QX.Len TYok | exact QX.Idx TYok); exact rfl) | refine SX.Box TYok (h := ?_) | refine SC ?_ | (apply S_isnil TYok; exact rfl; exact rfl; exact rfl; exact Ev.auto; intro bn hnil) | refine SG ?_ | (refine W.condA (ht := fun hb => ?_) (hf := fun hb => ?_) <;> (try simp at hb) <;> (try (exfalso; omega))))
      · have e2 : rightB s l = false := by
          rw [rightB, e, show digB (nth l k) = false by
            simp only [digB, Bool.and_eq_false_iff, decide_eq_false_iff_not]; omega]; rfl
        rw [e2]
        exact Fin.ret ResL.auto
      · refine ⟨k + 1, ⟨by omega, ?_⟩, ?_, by omega⟩
        · rw [e, show digB (nth l k) = true by
            simp only [digB, Bool.and_eq_true, decide_eq_true_iff]; omega]; rfl
        · exact Le.auto
    · obtain rfl : k = l.length := by omega
      have e : l.all digB = true := by rw [g2, List.drop_length]; rfl
      by_cases h0 : l.length = 0
      · have e2 : rightB s l = decide (s = 0) := by rw [rightB, e, if_pos h0]; rfl
        have h1 : (l.length : Int) = 0 := by omega
        have hnil := List.length_eq_zero_iff.1 h0
        by_cases hs : s = 0
        · subst hs
          rw [show rightB 0 l = true from e2]
          repeat' (first | ((first | apply U_ | (apply Ug_; exact rfl; exact rfl) | (apply Ugq_; exact rfl; exact rfl)); (first | exact QX.B TYok | exact QX.Len TYok | exact QX.Idx TYok | (apply Q_indexd TYok; exact Ev.auto; exact Ev.auto; exact rfl; exact rfl; exact rfl; (intro hg; exact getRowI (absurd h1 (of_decide_eq_false hg))); exact rfl)); exact rfl) | refine SX.Box TYok (h := ?_) | refine SC ?_ | (apply S_isnil TYok; exact rfl; exact rfl; exact rfl; exact Ev.auto; intro bn hnil) | refine SG ?_ | (refine W.condA (ht := fun hb => ?_) (hf := fun hb => ?_) <;> (try simp at hb) <;> (try (exfalso; omega))))
          · exfalso
            rcases hb with h | h
            · omega
            · exact h hnil
          · rw [show (decide ((l.length : Int) = 0) || !decide (nth l ((l.length : Int) - 1).toNat = 0)) = true by rw [decide_eq_true h1]; rfl]
            exact Fin.ret ResL.auto
        · rw [e2, decide_eq_false hs]
          repeat' (first | ((first | apply U_ | (apply Ug_; exact rfl; exact rfl) | (apply Ugq_; exact rfl; exact rfl)); (first | exact QX.B TYok | exact QX.Len TYok | exact QX.Idx TYok | (apply Q_indexd TYok; exact Ev.auto; exact Ev.auto; exact rfl; exact rfl; exact rfl; (intro hg; exact getRowI (absurd h1 (of_decide_eq_false hg))); exact rfl)); exact rfl) | refine SX.Box TYok (h := ?_) | refine SC ?_ | (apply S_isnil TYok; exact rfl; exact rfl; exact rfl; exact Ev.auto; intro bn hnil) | refine SG ?_ | (refine W.condA (ht := fun hb => ?_) (hf := fun hb => ?_) <;> (try simp at hb) <;> (try (exfalso; omega))))
          · exact Fin.ret ResL.auto
          · exact absurd (hb.2.1 hnil) hs
      · have e2 : rightB s l = ((decide (s = 1) || decide (s = -1)) && decide ((l.length : Int) ≤ 60) && !decide (nth l ((l.length : Int) - 1).toNat = 0)) := by
          rw [rightB, e, if_neg h0, show ((l.length : Int) - 1).toNat = l.length - 1 by omega, show decide (l.length ≤ 60) = decide ((l.length : Int) ≤ 60) from decide_eq_decide.2 (by omega)]; rfl
        have hnil : ¬ l = [] := fun h => h0 (by rw [h]; rfl)
        repeat' (first | ((first | apply U_ | (apply Ug_; exact rfl; exact rfl) | (apply Ugq_; exact rfl; exact rfl)); (first | exact QX.B TYok | exact QX.Len TYok | exact QX.Idx TYok); exact rfl) | refine SX.Box TYok (h := ?_) | refine SC ?_ | (apply S_isnil TYok; exact rfl; exact rfl; exact rfl; exact Ev.auto; intro bn hnil) | refine SG ?_ | (refine W.condA (ht := fun hb => ?_) (hf := fun hb => ?_) <;> (try simp at hb) <;> (try (exfalso; omega))))
        · have e3 : rightB s l = false := by
            simp only [hnil, false_iff, Classical.not_not] at hb
            rw [e2, Bool.and_eq_false_iff, Bool.and_eq_false_iff]
            by_cases s1 : s = 1 ∨ s = -1
            · exact .inl (.inr (decide_eq_false (by omega)))
            · exact .inl (.inl (by rw [Bool.or_eq_false_iff]; exact ⟨decide_eq_false (by omega), decide_eq_false (by omega)⟩))
          rw [e3]
          exact Fin.ret ResL.auto
        · simp only [hnil, false_iff] at hb
          have e3 : rightB s l = (decide ((l.length : Int) = 0) || !decide (nth l ((l.length : Int) - 1).toNat = 0)) := by
            rw [e2, show decide ((l.length : Int) = 0) = false from decide_eq_false (by omega), show (decide (s = 1) || decide (s = -1)) = true by
              rw [Bool.or_eq_true, decide_eq_true_iff, decide_eq_true_iff]; omega, decide_eq_true hb.1.2]; rfl
          rw [e3]
          exact Fin.ret ResL.auto
theorem rmade_ok (s : Int) (l : List Int) (dl : Dig l) (hl : l.length ≤ 1000000) (z : Int) (hs : s = 1 ∨ s = -1 ∨ val l = 0) (hz : z = s * val l) : ACalls Tryz.prog 91 [cI s, slI l] (.pv (zB z)) := by
  obtain ⟨e1, e2⟩ := num_of (val_lo dl) hs hz
  have h1 := rtrim_ok l (by omega)
  rw [trim_digs dl] at h1
  rw [show zB z = aB (if val l = 0 then 0 else s) (digs (val l)) by rw [zB, e1, e2]]
  have h3 : (digs (val l)).length = 0 ↔ val l = 0 := by rw [List.length_eq_zero_iff, digs_nil (val_lo dl)]
  have h4 : (digs (val l)).length ≤ l.length := by rw [← trim_digs dl]; exact trimL_len l
  generalize digs (val l) = D at *
  refine ACalls.of_M TYok (qs := [aB (if val l = 0 then 0 else s) D]) [.cell 4 38] 15 Tryz.func91 (by kernel_rfl) rfl rfl rfl fun G => ?_
  refine W.initA (hw := ?_)
  repeat' (first | ((first | apply U_); (first | exact QX.B TYok | exact QX.Len TYok | exact QX.Build TYok | exact QCd (h1)); exact rfl) | refine SX.Alloc TYok (h := ?_) | refine SX.Store TYok (h := ?_) | refine SC ?_ | (apply S_isnil TYok; exact rfl; exact rfl; exact rfl; exact Ev.auto; intro bn hnil) | (refine W.condA (ht := fun hb => ?_) (hf := fun hb => ?_) <;> (try simp at hb) <;> (try (exfalso; omega))))
  · rw [hb, if_pos (h3.1 (by rw [hb]; rfl))]
    exact FinM.ret (ResM.cell rfl rfl rfl rfl zeroSub ResM.nil)
  · rw [if_neg (fun h => hb (List.length_eq_zero_iff.1 (h3.2 h)))]
    exact FinM.ret ResM.auto
theorem rright_yes {x : Int} (h : okZ x) : ACalls Tryz.prog 87 [zB x] (.pv (cB true)) := by
  rw [← num_right h]; exact rright_ok _ _ (by have := num_len h; omega)
theorem rneg_ok (x : Int) (hx : okZ x) : ACalls Tryz.prog 88 [zB x] (.pv (zB (-x))) := by
  have h1 := rright_yes hx
  have h2 := num_len hx
  have h4 := rmade_ok (-(sgn x)) (digs (mag x)) (digs_norm _).dig (by omega) (-x) (by have := sgn_cases x; rw [val_mag]; omega) (by rw [val_mag, Int.neg_mul, sgn_mag])
  have hc := sgn_cases x
  refine ACalls.of_M TYok (qs := [zB (-x)]) [.cell 2 38] 13 Tryz.func88 (by kernel_rfl) rfl rfl rfl fun G => ?_
  refine W.initA (hw := ?_)
  repeat' (first | ((first | apply U_); (first | exact QX.B TYok | exact QX.Build TYok | exact QCl (h1) | exact QCd (h4)); exact rfl) | refine SX.Alloc TYok (h := ?_) | refine SX.Store TYok (h := ?_) | refine SX.Box TYok (h := ?_) | refine SC ?_ | (refine W.condA (ht := fun hb => ?_) (hf := fun hb => ?_) <;> (try simp at hb) <;> (try (exfalso; omega))))
  exact FinM.ret ResM.auto
end Go.Proofs.YtjedkgogjehigaaGreat
end
section
set_option linter.unusedVariables false
set_option linter.unusedSimpArgs false
set_option maxHeartbeats 8000000
set_option linter.unusedSectionVars false
namespace Go.Proofs.YtjedkgogjehigaaGreat
open Lf Go
attribute [local irreducible] PureOp EffOp Ev RG W Then InBlock Lf.Fin nth App InitE Pick SubE EvL EvD EvP EvR ResL Lf.Lex SubR SubBR RA RAll EvC FinO FinM ResM ResD FinS val pw digs trimL
theorem rdivZ_ok (x y : Int) (hx : okZ x) (hy : okZ y) (h0 : y ≠ 0) : ACalls Tryz.prog 90 [zB x, zB y] (.tup [zB (quoZ x y), zB (remZ x y), cI 0]) := by
  have h1 := rright_yes hx
  have h2 := rright_yes hy
  have l1 := num_len hx
  have l2 := num_len hy
  have hs := mul_sgn x y
  have c1 := sgn_cases x
  have c2 := sgn_cases y
  have mx := mag_nn x
  have my : 0 < mag y := by omega
  have h3 := rover_ok (digs (mag x)) (digs (mag y)) (digs_norm _).dig (digs_norm _).dig (by omega) (by omega) (by rw [val_mag]; exact my)
  rw [val_mag, val_mag] at h3
  have hq := Int.ediv_nonneg mx (show 0 ≤ mag y by omega)
  have hq2 : mag x / mag y ≤ mag x := Int.ediv_le_self _ mx
  have hr := Int.emod_nonneg (mag x) (show mag y ≠ 0 by omega)
  have hr2 := Int.emod_lt_of_pos (mag x) my
  have hm := Int.emod_add_mul_ediv (mag x) (mag y)
  have lq := digs_mono hq hq2
  have lr := digs_mono hr (show mag x % mag y ≤ mag y by omega)
  generalize mag x / mag y = q at *
  generalize mag x % mag y = r at *
  have hr0 : (digs r).length = 0 ↔ r = 0 := by rw [List.length_eq_zero_iff, digs_nil hr]
  by_cases hc : sgn x * sgn y < 0 ∧ 0 < r
  · have hne : 0 < (digs r).length := by omega
    have hxy : (x < 0 ∧ 0 < y) ∨ (0 < x ∧ y < 0) := by
      rcases c1 with h | h | h <;> rcases c2 with h' | h' | h' <;> rw [h.1, h'.1] at hc <;> first | (exfalso; omega) | omega
    have h4 := rplus_ok (digs q) [1] (digs_norm _).dig (Dig.cons (by omega) Dig.nil) (by omega) (by simp)
    rw [val_digs hq, val_one] at h4
    have h5 := rminus_ok (digs (mag y)) (digs r) (digs_norm _).dig (digs_norm _).dig (by omega) lr (by rw [val_mag, val_digs hr]; omega)
    rw [val_mag, val_digs hr] at h5
    have l6 := digs_mono (show 0 ≤ mag y - r by omega) (show mag y - r ≤ mag y by omega)
    have l7 : (digs (q + 1)).length ≤ 100 := (digs_len (by omega)).2 (by
      have := hx; unfold okZ at this
      have := pw_lt (show 60 < 100 by omega); omega)
    obtain ⟨u1, u2⟩ := quo_uniq (x := x) (q := -(q + 1)) (r := sgn y * (mag y - r)) h0 (by
        rcases hxy with h | h
        · have e1 : mag x = -x := by omega
          have e2 : mag y = y := by omega
          have e3 : sgn y = 1 := by omega
          rw [e3, e2]; rw [e1, e2] at hm; grind
        · have e1 : mag x = x := by omega
          have e2 : mag y = -y := by omega
          have e3 : sgn y = -1 := by omega
          rw [e3, e2]; rw [e1, e2] at hm; grind)
      (fun hp => by rw [show sgn y = 1 by omega]; omega) (fun hp => by rw [show sgn y = -1 by omega]; omega)
    rw [← u1, ← u2]
    have h6 := rmade_ok (-1) (digs (q + 1)) (digs_norm _).dig (by omega) (-(q + 1)) (.inr (.inl rfl)) (by rw [val_digs (by omega)]; omega)
    have h7 := rmade_ok (sgn y) (digs (mag y - r)) (digs_norm _).dig (by omega) (sgn y * (mag y - r)) (by omega) (by rw [val_digs (by omega)])
    generalize sgn y * (mag y - r) = z2 at *
    generalize -(q + 1) = z1 at *
    have hbad : (0 ≤ sgn x * sgn y ∨ digs r = []) → False := fun h => by
      rcases h with h | h
      · omega
      · rw [h] at hne; simp at hne
    refine ACalls.of_M TYok (qs := [zB z1, zB z2, cI 0]) [.cell 4 38, .cell 5 38, .tmp 6] 65 Tryz.func90 (by kernel_rfl) rfl rfl rfl fun G => ?_
    refine W.initA (hw := ?_)
    repeat' (first | ((first | apply U_ | (apply Ug_; exact rfl; exact rfl) | (apply Ugq_; exact rfl; exact rfl) | apply Lex.u | (apply Lex.g; exact rfl; exact rfl) | (apply Lex.gq; exact rfl; exact rfl)); (first | (apply Q_litD TYok; (repeat (first | exact EvR.nil | apply EvR.cons Ev.auto)); exact rfl; exact rfl; exact rfl; exact rfl; exact rfl; exact rfl) | exact QX.B TYok | exact QX.Len TYok | exact QX.Ext TYok | exact QX.Build TYok | exact QCl (h1) | exact QCl (h2) | exact QCd (h3) | exact QCd (h5) | exact QCd (h6) | exact QCd (h7) | exact QCd (h4)); exact rfl) | refine SX.Alloc TYok (h := ?_) | refine SX.Store TYok (h := ?_) | refine SX.Lit TYok (h := ?_) | refine SX.Box TYok (h := ?_) | refine SC ?_ | (apply S_isnil TYok; exact rfl; exact rfl; exact rfl; exact Ev.auto; intro bn hnil) | refine SG ?_ | (apply W.draw2 (id := 7) [0, 1, 0, 4, 15, 0, 63, 0, 128, 0, 1023, 2047, 4095, 8191] [[2], [43], [3], [45], [44, 46], [7], [47, 48], [2], [50], [8], [51, 52]] 11 [(43, 4), (44, 8796093022208), (45, 8), (46, 35184372088832), (47, 87960930222080), (48, 128), (49, 422212465065984), (50, 4), (51, 1125899906842624), (52, 256), (53, 6755399441055744)] mixed (by kernel_rfl) rfl rfl) | (apply W.draw2 (id := 8) [0, 0, 3, 7, 0, 16, 0, 64, 0, 463, 1023, 2047, 4095, 8191] [[7], [], [54, 55], [56], [3], [58], [3], [60], [8], [61, 62], [59, 63]] 11 [(54, 128), (55, 0), (56, 54043195528445952), (57, 72057594037927936), (58, 8), (59, 288230376151711744), (60, 8), (61, 1152921504606846976), (62, 256), (63, 6917529027641081856), (64, 9799832789158199296)] mixed (by kernel_rfl) rfl rfl) | (refine W.condA (ht := fun hb => ?_) (hf := fun hb => ?_) <;> (try simp at hb) <;> (try (exfalso; first | exact hbad hb | omega))))
    exact FinM.ret ResM.auto
  · have hcc : ¬ (sgn x * sgn y < 0 ∧ 0 < (digs r).length) := by omega
    have hxy : (x = 0) ∨ (0 < x ∧ 0 < y) ∨ (x < 0 ∧ y < 0) ∨ r = 0 := by
      by_cases hr' : r = 0
      · exact .inr (.inr (.inr hr'))
      · have hc2 : ¬ sgn x * sgn y < 0 := fun q => hc ⟨q, by omega⟩
        rcases c1 with h | h | h
        · rcases c2 with h' | h' | h'
          · omega
          · omega
          · rw [h.1, h'.1] at hc2; exact absurd (by decide) hc2
        · exact .inl h.2.1
        · rcases c2 with h' | h' | h'
          · rw [h.1, h'.1] at hc2; exact absurd (by decide) hc2
          · omega
          · omega
    have hq0 : x = 0 → q = 0 := fun h => by
      have : mag x = 0 := by omega
      omega
    have hsm : sgn x * sgn y = 1 ∨ sgn x * sgn y = -1 ∨ q = 0 := by
      rcases c1 with h | h | h
      · rcases c2 with h' | h' | h'
        · rw [h.1, h'.1]; exact .inl rfl
        · exact absurd h'.2.1 h0
        · rw [h.1, h'.1]; exact .inr (.inl rfl)
      · exact .inr (.inr (hq0 h.2.1))
      · rcases c2 with h' | h' | h'
        · rw [h.1, h'.1]; exact .inr (.inl rfl)
        · exact absurd h'.2.1 h0
        · rw [h.1, h'.1]; exact .inl rfl
    have hsx : sgn x = 1 ∨ sgn x = -1 ∨ r = 0 := by
      rcases c1 with h | h | h
      · exact .inr (.inl h.1)
      · have e := hq0 h.2.1
        rw [e, Int.mul_zero] at hm
        exact .inr (.inr (by omega))
      · exact .inl h.1
    obtain ⟨u1, u2⟩ := quo_uniq (x := x) (q := sgn x * sgn y * q) (r := sgn x * r) h0 (by
        have e1 := sgn_mag x
        have e2 := sgn_mag y
        have e3 : sgn y * sgn y = 1 := by
          rcases c2 with h | h | h
          · rw [h.1]; rfl
          · exact absurd h.2.1 h0
          · rw [h.1]; rfl
        generalize sgn x = sx at *
        generalize sgn y = sy at *
        generalize mag x = px at *
        generalize mag y = py at *
        subst e1; subst e2
        rw [← hm]
        have e4 : sy * py * (sx * sy * q) = sx * (py * q) * (sy * sy) := by grind
        rw [e4, e3]; grind)
      (fun hp => by
        rcases hxy with h | h | h | h
        · rw [show sgn x = 0 by omega]; omega
        · rw [show sgn x = 1 by omega]; omega
        · omega
        · rw [h, Int.mul_zero]; omega)
      (fun hp => by
        rcases hxy with h | h | h | h
        · rw [show sgn x = 0 by omega]; omega
        · omega
        · rw [show sgn x = -1 by omega]; omega
        · rw [h, Int.mul_zero]; omega)
    rw [← u1, ← u2]
    have h6 := rmade_ok (sgn x * sgn y) (digs q) (digs_norm _).dig (by omega) (sgn x * sgn y * q) (by rw [val_digs hq]; exact hsm) (by rw [val_digs hq])
    have h7 := rmade_ok (sgn x) (digs r) (digs_norm _).dig (by omega) (sgn x * r) (by rw [val_digs hr]; exact hsx) (by rw [val_digs hr])
    generalize sgn x * sgn y * q = z1 at *
    generalize sgn x * r = z2 at *
    have hbad : (sgn x * sgn y < 0 ∧ ¬ digs r = []) → False := fun h => hcc ⟨h.1, by have := List.length_pos_iff.2 h.2; omega⟩
    refine ACalls.of_M TYok (qs := [zB z1, zB z2, cI 0]) [.cell 4 38, .cell 5 38, .tmp 6] 65 Tryz.func90 (by kernel_rfl) rfl rfl rfl fun G => ?_
    refine W.initA (hw := ?_)
    repeat' (first | ((first | apply U_ | (apply Ug_; exact rfl; exact rfl) | (apply Ugq_; exact rfl; exact rfl) | apply Lex.u | (apply Lex.g; exact rfl; exact rfl) | (apply Lex.gq; exact rfl; exact rfl)); (first | exact QX.B TYok | exact QX.Len TYok | exact QX.Ext TYok | exact QX.Build TYok | exact QCl (h1) | exact QCl (h2) | exact QCd (h3) | exact QCd (h6) | exact QCd (h7)); exact rfl) | refine SX.Alloc TYok (h := ?_) | refine SX.Store TYok (h := ?_) | refine SX.Lit TYok (h := ?_) | refine SX.Box TYok (h := ?_) | refine SC ?_ | (apply S_isnil TYok; exact rfl; exact rfl; exact rfl; exact Ev.auto; intro bn hnil) | refine SG ?_ | (apply W.draw2 (id := 7) [0, 1, 0, 4, 15, 0, 63, 0, 128, 0, 1023, 2047, 4095, 8191] [[2], [43], [3], [45], [44, 46], [7], [47, 48], [2], [50], [8], [51, 52]] 11 [(43, 4), (44, 8796093022208), (45, 8), (46, 35184372088832), (47, 87960930222080), (48, 128), (49, 422212465065984), (50, 4), (51, 1125899906842624), (52, 256), (53, 6755399441055744)] mixed (by kernel_rfl) rfl rfl) | (refine W.drawA (id := 8) (L := [false, false, false, false, false, false, false, false, false, false, false, false, false, false]) mixed rfl ?_) | exact RAll.nil | (refine RAll.cons rfl ?_ ?_) | (refine RA.step (L := [false, false, false, false, false, false, false, false, false, false, false, false, false, false]) (i := 0) (is := [1, 4, 6, 8]) (by kernel_rfl) ?_) | (refine RA.step (L := [false, false, false, false, false, false, false, false, true, false, false, false, false, false]) (i := 0) (is := [1, 4, 6]) (by kernel_rfl) ?_) | (refine RA.step (L := [false, false, false, false, false, false, true, false, true, false, false, false, false, false]) (i := 0) (is := [1, 4, 7]) (by kernel_rfl) ?_) | (refine RA.step (L := [false, false, false, false, false, false, true, true, true, false, false, false, false, false]) (i := 0) (is := [1, 4]) (by kernel_rfl) ?_) | (refine RA.step (L := [false, false, false, false, true, false, true, true, true, false, false, false, false, false]) (i := 0) (is := [1, 5]) (by kernel_rfl) ?_) | (refine RA.step (L := [false, false, false, false, true, true, true, true, true, false, false, false, false, false]) (i := 0) (is := [1]) (by kernel_rfl) ?_) | (refine RA.step (L := [false, true, false, false, true, true, true, true, true, false, false, false, false, false]) (i := 0) (is := []) (by kernel_rfl) ?_) | (refine RA.step (L := [true, true, false, false, true, true, true, true, true, false, false, false, false, false]) (i := 2) (is := []) (by kernel_rfl) ?_) | (refine RA.step (L := [true, true, true, false, true, true, true, true, true, false, false, false, false, false]) (i := 3) (is := []) (by kernel_rfl) ?_) | (refine RA.step (L := [true, true, true, true, true, true, true, true, true, false, false, false, false, false]) (i := 9) (is := []) (by kernel_rfl) ?_) | (refine RA.step (L := [true, true, true, true, true, true, true, true, true, true, false, false, false, false]) (i := 10) (is := []) (by kernel_rfl) ?_) | (refine RA.step (L := [true, true, true, true, true, true, true, true, true, true, true, false, false, false]) (i := 11) (is := []) (by kernel_rfl) ?_) | (refine RA.step (L := [true, true, true, true, true, true, true, true, true, true, true, true, false, false]) (i := 12) (is := []) (by kernel_rfl) ?_) | (refine RA.step (L := [true, true, true, true, true, true, true, true, true, true, true, true, true, false]) (i := 13) (is := []) (by kernel_rfl) ?_) | (refine RA.done (L := [true, true, true, true, true, true, true, true, true, true, true, true, true, true]) (by kernel_rfl) ?_) | (refine RA.step (L := [true, false, false, false, true, true, true, true, true, false, false, false, false, false]) (i := 1) (is := []) (by kernel_rfl) ?_) | (refine RA.step (L := [false, true, false, false, true, false, true, true, true, false, false, false, false, false]) (i := 0) (is := [5]) (by kernel_rfl) ?_) | (refine RA.step (L := [true, true, false, false, true, false, true, true, true, false, false, false, false, false]) (i := 2) (is := [5]) (by kernel_rfl) ?_) | (refine RA.step (L := [true, true, true, false, true, false, true, true, true, false, false, false, false, false]) (i := 3) (is := [5]) (by kernel_rfl) ?_) | (refine RA.step (L := [true, true, true, true, true, false, true, true, true, false, false, false, false, false]) (i := 5) (is := [9]) (by kernel_rfl) ?_) | (refine RA.step (L := [true, true, true, true, true, false, true, true, true, true, false, false, false, false]) (i := 5) (is := []) (by kernel_rfl) ?_) | (refine RA.step (L := [true, false, false, false, true, false, true, true, true, false, false, false, false, false]) (i := 1) (is := [5]) (by kernel_rfl) ?_) | (refine RA.step (L := [false, true, false, false, false, false, true, true, true, false, false, false, false, false]) (i := 0) (is := [4]) (by kernel_rfl) ?_) | (refine RA.step (L := [true, true, false, false, false, false, true, true, true, false, false, false, false, false]) (i := 2) (is := [4]) (by kernel_rfl) ?_) | (refine RA.step (L := [true, true, true, false, false, false, true, true, true, false, false, false, false, false]) (i := 3) (is := [4]) (by kernel_rfl) ?_) | (refine RA.step (L := [true, true, true, true, false, false, true, true, true, false, false, false, false, false]) (i := 4) (is := [9]) (by kernel_rfl) ?_) | (refine RA.step (L := [true, true, true, true, false, false, true, true, true, true, false, false, false, false]) (i := 4) (is := []) (by kernel_rfl) ?_) | (refine RA.step (L := [true, false, false, false, false, false, true, true, true, false, false, false, false, false]) (i := 1) (is := [4]) (by kernel_rfl) ?_) | (refine RA.step (L := [false, false, false, false, true, false, true, false, true, false, false, false, false, false]) (i := 0) (is := [1, 5, 7]) (by kernel_rfl) ?_) | (refine RA.step (L := [false, false, false, false, true, true, true, false, true, false, false, false, false, false]) (i := 0) (is := [1, 7]) (by kernel_rfl) ?_) | (refine RA.step (L := [false, true, false, false, true, true, true, false, true, false, false, false, false, false]) (i := 0) (is := [7]) (by kernel_rfl) ?_) | (refine RA.step (L := [true, true, false, false, true, true, true, false, true, false, false, false, false, false]) (i := 2) (is := [7]) (by kernel_rfl) ?_) | (refine RA.step (L := [true, true, true, false, true, true, true, false, true, false, false, false, false, false]) (i := 3) (is := [7]) (by kernel_rfl) ?_) | (refine RA.step (L := [true, true, true, true, true, true, true, false, true, false, false, false, false, false]) (i := 7) (is := []) (by kernel_rfl) ?_) | (refine RA.step (L := [true, false, false, false, true, true, true, false, true, false, false, false, false, false]) (i := 1) (is := [7]) (by kernel_rfl) ?_) | (refine RA.step (L := [false, true, false, false, true, false, true, false, true, false, false, false, false, false]) (i := 0) (is := [5, 7]) (by kernel_rfl) ?_) | (refine RA.step (L := [true, true, false, false, true, false, true, false, true, false, false, false, false, false]) (i := 2) (is := [5, 7]) (by kernel_rfl) ?_) | (refine RA.step (L := [true, true, true, false, true, false, true, false, true, false, false, false, false, false]) (i := 3) (is := [5, 7]) (by kernel_rfl) ?_) | (refine RA.step (L := [true, true, true, true, true, false, true, false, true, false, false, false, false, false]) (i := 5) (is := [7]) (by kernel_rfl) ?_) | (refine RA.step (L := [true, false, false, false, true, false, true, false, true, false, false, false, false, false]) (i := 1) (is := [5, 7]) (by kernel_rfl) ?_) | (refine RA.step (L := [false, true, false, false, false, false, true, false, true, false, false, false, false, false]) (i := 0) (is := [4, 7]) (by kernel_rfl) ?_) | (refine RA.step (L := [true, true, false, false, false, false, true, false, true, false, false, false, false, false]) (i := 2) (is := [4, 7]) (by kernel_rfl) ?_) | (refine RA.step (L := [true, true, true, false, false, false, true, false, true, false, false, false, false, false]) (i := 3) (is := [4, 7]) (by kernel_rfl) ?_) | (refine RA.step (L := [true, true, true, true, false, false, true, false, true, false, false, false, false, false]) (i := 4) (is := [7]) (by kernel_rfl) ?_) | (refine RA.step (L := [true, false, false, false, false, false, true, false, true, false, false, false, false, false]) (i := 1) (is := [4, 7]) (by kernel_rfl) ?_) | (refine RA.step (L := [false, false, false, false, true, false, false, false, true, false, false, false, false, false]) (i := 0) (is := [1, 5, 6]) (by kernel_rfl) ?_) | (refine RA.step (L := [false, false, false, false, true, true, false, false, true, false, false, false, false, false]) (i := 0) (is := [1, 6]) (by kernel_rfl) ?_) | (refine RA.step (L := [false, true, false, false, true, true, false, false, true, false, false, false, false, false]) (i := 0) (is := [6]) (by kernel_rfl) ?_) | (refine RA.step (L := [true, true, false, false, true, true, false, false, true, false, false, false, false, false]) (i := 2) (is := [6]) (by kernel_rfl) ?_) | (refine RA.step (L := [true, true, true, false, true, true, false, false, true, false, false, false, false, false]) (i := 3) (is := [6]) (by kernel_rfl) ?_) | (refine RA.step (L := [true, true, true, true, true, true, false, false, true, false, false, false, false, false]) (i := 6) (is := []) (by kernel_rfl) ?_) | (refine RA.step (L := [true, false, false, false, true, true, false, false, true, false, false, false, false, false]) (i := 1) (is := [6]) (by kernel_rfl) ?_) | (refine RA.step (L := [false, true, false, false, true, false, false, false, true, false, false, false, false, false]) (i := 0) (is := [5, 6]) (by kernel_rfl) ?_) | (refine RA.step (L := [true, true, false, false, true, false, false, false, true, false, false, false, false, false]) (i := 2) (is := [5, 6]) (by kernel_rfl) ?_) | (refine RA.step (L := [true, true, true, false, true, false, false, false, true, false, false, false, false, false]) (i := 3) (is := [5, 6]) (by kernel_rfl) ?_) | (refine RA.step (L := [true, true, true, true, true, false, false, false, true, false, false, false, false, false]) (i := 5) (is := [6]) (by kernel_rfl) ?_) | (refine RA.step (L := [true, false, false, false, true, false, false, false, true, false, false, false, false, false]) (i := 1) (is := [5, 6]) (by kernel_rfl) ?_) | (refine RA.step (L := [false, true, false, false, false, false, false, false, true, false, false, false, false, false]) (i := 0) (is := [4, 6]) (by kernel_rfl) ?_) | (refine RA.step (L := [true, true, false, false, false, false, false, false, true, false, false, false, false, false]) (i := 2) (is := [4, 6]) (by kernel_rfl) ?_) | (refine RA.step (L := [true, true, true, false, false, false, false, false, true, false, false, false, false, false]) (i := 3) (is := [4, 6]) (by kernel_rfl) ?_) | (refine RA.step (L := [true, true, true, true, false, false, false, false, true, false, false, false, false, false]) (i := 4) (is := [6]) (by kernel_rfl) ?_) | (refine RA.step (L := [true, false, false, false, false, false, false, false, true, false, false, false, false, false]) (i := 1) (is := [4, 6]) (by kernel_rfl) ?_) | (refine RA.step (L := [false, false, false, false, false, false, true, false, false, false, false, false, false, false]) (i := 0) (is := [1, 4, 7, 8]) (by kernel_rfl) ?_) | (refine RA.step (L := [false, false, false, false, false, false, true, true, false, false, false, false, false, false]) (i := 0) (is := [1, 4, 8]) (by kernel_rfl) ?_) | (refine RA.step (L := [false, false, false, false, true, false, true, true, false, false, false, false, false, false]) (i := 0) (is := [1, 5, 8]) (by kernel_rfl) ?_) | (refine RA.step (L := [false, false, false, false, true, true, true, true, false, false, false, false, false, false]) (i := 0) (is := [1, 8]) (by kernel_rfl) ?_) | (refine RA.step (L := [false, true, false, false, true, true, true, true, false, false, false, false, false, false]) (i := 0) (is := [8]) (by kernel_rfl) ?_) | (refine RA.step (L := [true, true, false, false, true, true, true, true, false, false, false, false, false, false]) (i := 2) (is := [8]) (by kernel_rfl) ?_) | (refine RA.step (L := [true, true, true, false, true, true, true, true, false, false, false, false, false, false]) (i := 3) (is := [8]) (by kernel_rfl) ?_) | (refine RA.step (L := [true, true, true, true, true, true, true, true, false, false, false, false, false, false]) (i := 8) (is := []) (by kernel_rfl) ?_) | (refine RA.step (L := [true, false, false, false, true, true, true, true, false, false, false, false, false, false]) (i := 1) (is := [8]) (by kernel_rfl) ?_) | (refine RA.step (L := [false, true, false, false, true, false, true, true, false, false, false, false, false, false]) (i := 0) (is := [5, 8]) (by kernel_rfl) ?_) | (refine RA.step (L := [true, true, false, false, true, false, true, true, false, false, false, false, false, false]) (i := 2) (is := [5, 8]) (by kernel_rfl) ?_) | (refine RA.step (L := [true, true, true, false, true, false, true, true, false, false, false, false, false, false]) (i := 3) (is := [5, 8]) (by kernel_rfl) ?_) | (refine RA.step (L := [true, true, true, true, true, false, true, true, false, false, false, false, false, false]) (i := 5) (is := [8]) (by kernel_rfl) ?_) | (refine RA.step (L := [true, false, false, false, true, false, true, true, false, false, false, false, false, false]) (i := 1) (is := [5, 8]) (by kernel_rfl) ?_) | (refine RA.step (L := [false, true, false, false, false, false, true, true, false, false, false, false, false, false]) (i := 0) (is := [4, 8]) (by kernel_rfl) ?_) | (refine RA.step (L := [true, true, false, false, false, false, true, true, false, false, false, false, false, false]) (i := 2) (is := [4, 8]) (by kernel_rfl) ?_) | (refine RA.step (L := [true, true, true, false, false, false, true, true, false, false, false, false, false, false]) (i := 3) (is := [4, 8]) (by kernel_rfl) ?_) | (refine RA.step (L := [true, true, true, true, false, false, true, true, false, false, false, false, false, false]) (i := 4) (is := [8]) (by kernel_rfl) ?_) | (refine RA.step (L := [true, false, false, false, false, false, true, true, false, false, false, false, false, false]) (i := 1) (is := [4, 8]) (by kernel_rfl) ?_) | (refine RA.step (L := [false, false, false, false, true, false, true, false, false, false, false, false, false, false]) (i := 0) (is := [1, 5, 7, 8]) (by kernel_rfl) ?_) | (refine RA.step (L := [false, false, false, false, true, true, true, false, false, false, false, false, false, false]) (i := 0) (is := [1, 7, 8]) (by kernel_rfl) ?_) | (refine RA.step (L := [false, true, false, false, true, true, true, false, false, false, false, false, false, false]) (i := 0) (is := [7, 8]) (by kernel_rfl) ?_) | (refine RA.step (L := [true, true, false, false, true, true, true, false, false, false, false, false, false, false]) (i := 2) (is := [7, 8]) (by kernel_rfl) ?_) | (refine RA.step (L := [true, true, true, false, true, true, true, false, false, false, false, false, false, false]) (i := 3) (is := [7, 8]) (by kernel_rfl) ?_) | (refine RA.step (L := [true, true, true, true, true, true, true, false, false, false, false, false, false, false]) (i := 7) (is := [8]) (by kernel_rfl) ?_) | (refine RA.step (L := [true, false, false, false, true, true, true, false, false, false, false, false, false, false]) (i := 1) (is := [7, 8]) (by kernel_rfl) ?_) | (refine RA.step (L := [false, true, false, false, true, false, true, false, false, false, false, false, false, false]) (i := 0) (is := [5, 7, 8]) (by kernel_rfl) ?_) | (refine RA.step (L := [true, true, false, false, true, false, true, false, false, false, false, false, false, false]) (i := 2) (is := [5, 7, 8]) (by kernel_rfl) ?_) | (refine RA.step (L := [true, true, true, false, true, false, true, false, false, false, false, false, false, false]) (i := 3) (is := [5, 7, 8]) (by kernel_rfl) ?_) | (refine RA.step (L := [true, true, true, true, true, false, true, false, false, false, false, false, false, false]) (i := 5) (is := [7, 8]) (by kernel_rfl) ?_) | (refine RA.step (L := [true, false, false, false, true, false, true, false, false, false, false, false, false, false]) (i := 1) (is := [5, 7, 8]) (by kernel_rfl) ?_) | (refine RA.step (L := [false, true, false, false, false, false, true, false, false, false, false, false, false, false]) (i := 0) (is := [4, 7, 8]) (by kernel_rfl) ?_) | (refine RA.step (L := [true, true, false, false, false, false, true, false, false, false, false, false, false, false]) (i := 2) (is := [4, 7, 8]) (by kernel_rfl) ?_) | (refine RA.step (L := [true, true, true, false, false, false, true, false, false, false, false, false, false, false]) (i := 3) (is := [4, 7, 8]) (by kernel_rfl) ?_) | (refine RA.step (L := [true, true, true, true, false, false, true, false, false, false, false, false, false, false]) (i := 4) (is := [7, 8]) (by kernel_rfl) ?_) | (refine RA.step (L := [true, false, false, false, false, false, true, false, false, false, false, false, false, false]) (i := 1) (is := [4, 7, 8]) (by kernel_rfl) ?_) | (refine RA.step (L := [false, false, false, false, true, false, false, false, false, false, false, false, false, false]) (i := 0) (is := [1, 5, 6, 8]) (by kernel_rfl) ?_) | (refine RA.step (L := [false, false, false, false, true, true, false, false, false, false, false, false, false, false]) (i := 0) (is := [1, 6, 8]) (by kernel_rfl) ?_) | (refine RA.step (L := [false, true, false, false, true, true, false, false, false, false, false, false, false, false]) (i := 0) (is := [6, 8]) (by kernel_rfl) ?_) | (refine RA.step (L := [true, true, false, false, true, true, false, false, false, false, false, false, false, false]) (i := 2) (is := [6, 8]) (by kernel_rfl) ?_) | (refine RA.step (L := [true, true, true, false, true, true, false, false, false, false, false, false, false, false]) (i := 3) (is := [6, 8]) (by kernel_rfl) ?_) | (refine RA.step (L := [true, true, true, true, true, true, false, false, false, false, false, false, false, false]) (i := 6) (is := [8]) (by kernel_rfl) ?_) | (refine RA.step (L := [true, false, false, false, true, true, false, false, false, false, false, false, false, false]) (i := 1) (is := [6, 8]) (by kernel_rfl) ?_) | (refine RA.step (L := [false, true, false, false, true, false, false, false, false, false, false, false, false, false]) (i := 0) (is := [5, 6, 8]) (by kernel_rfl) ?_) | (refine RA.step (L := [true, true, false, false, true, false, false, false, false, false, false, false, false, false]) (i := 2) (is := [5, 6, 8]) (by kernel_rfl) ?_) | (refine RA.step (L := [true, true, true, false, true, false, false, false, false, false, false, false, false, false]) (i := 3) (is := [5, 6, 8]) (by kernel_rfl) ?_) | (refine RA.step (L := [true, true, true, true, true, false, false, false, false, false, false, false, false, false]) (i := 5) (is := [6, 8]) (by kernel_rfl) ?_) | (refine RA.step (L := [true, false, false, false, true, false, false, false, false, false, false, false, false, false]) (i := 1) (is := [5, 6, 8]) (by kernel_rfl) ?_) | (refine RA.step (L := [false, true, false, false, false, false, false, false, false, false, false, false, false, false]) (i := 0) (is := [4, 6, 8]) (by kernel_rfl) ?_) | (refine RA.step (L := [true, true, false, false, false, false, false, false, false, false, false, false, false, false]) (i := 2) (is := [4, 6, 8]) (by kernel_rfl) ?_) | (refine RA.step (L := [true, true, true, false, false, false, false, false, false, false, false, false, false, false]) (i := 3) (is := [4, 6, 8]) (by kernel_rfl) ?_) | (refine RA.step (L := [true, true, true, true, false, false, false, false, false, false, false, false, false, false]) (i := 4) (is := [6, 8]) (by kernel_rfl) ?_) | (refine RA.step (L := [true, false, false, false, false, false, false, false, false, false, false, false, false, false]) (i := 1) (is := [4, 6, 8]) (by kernel_rfl) ?_) | (refine W.condA (ht := fun hb => ?_) (hf := fun hb => ?_) <;> (try simp at hb) <;> (try (exfalso; first | exact hbad hb | omega))))
    exact FinM.ret ResM.auto
theorem rgcdZ_ok (x y : Int) (hx : okZ x) (hy : okZ y) : ACalls Tryz.prog 89 [zB x, zB y] (.tup [zB (gcdZ x y), cI 0]) := by
  have h1 := rright_yes hx
  have h2 := rright_yes hy
  have l1 := num_len hx
  have l2 := num_len hy
  have hg := gcd_lt hx hy
  have hg0 : 0 ≤ gcdZ x y := by unfold gcdZ; omega
  refine ACalls.of_M TYok (qs := [zB (gcdZ x y), cI 0]) [.cell 4 38, .tmp 5] 36 Tryz.func89 (by kernel_rfl) rfl rfl rfl fun G => ?_
  refine W.initA (hw := ?_)
  repeat' (first | ((first | apply U_ | (apply Ug_; exact rfl; exact rfl) | (apply Ugq_; exact rfl; exact rfl)); (first | exact QX.B TYok | exact QX.Len TYok | exact QX.Ext TYok | exact QX.Build TYok | exact QCl (h1) | exact QCl (h2)); exact rfl) | refine SX.Alloc TYok (h := ?_) | refine SX.Store TYok (h := ?_) | refine SX.Box TYok (h := ?_) | refine SC ?_ | refine SG ?_ | (refine W.condA (ht := fun hb => ?_) (hf := fun hb => ?_) <;> (try simp at hb) <;> (try (exfalso; omega))))
  apply W.loopP (σ := Int × Int) 36 [4] (fun (u, v) => (0 ≤ u ∧ 0 ≤ v ∧ (Int.gcd u v : Int) = gcdZ x y ∧ u < pw 60 ∧ v < pw 60)) (fun (u, v) => [(6, (True, .pv (slI (digs u)))), (7, (True, .pv (slI (digs v))))]) (fun _ => [(4, ⟨38, 2, [[.int .i64 0, .slnil]]⟩)]) (fun (u, v) => v.toNat) ((mag x, mag y))
  case hp => repeat (first | exact Pick.nil | apply Pick.cons rfl)
  case h0 =>
    refine ⟨⟨mag_nn x, mag_nn y, by unfold gcdZ; rw [gcd_mag], hx, hy⟩, ?_⟩
    exact Le.auto
  case round =>
    rintro ⟨u, v⟩ ⟨g1, g2, g3, g4, g5⟩
    dsimp only at g1 g2 g3 g4 g5 ⊢
    have lu := (digs_len g1).2 g4
    have lv := (digs_len g2).2 g5
    have hv0 : (digs v).length = 0 ↔ v = 0 := by rw [List.length_eq_zero_iff, digs_nil g2]
    apply W.norm (by repeat (first | exact App.nil | apply App.cons))
    by_cases hv : v = 0
    · have hlv : (digs v).length = 0 := hv0.2 hv
      have hug : u = gcdZ x y := by rw [hv, Int.gcd_zero_right] at g3; omega
      have h7 := rmade_ok 1 (digs u) (digs_norm _).dig (by omega) (gcdZ x y) (.inl rfl) (by rw [val_digs g1]; omega)
      repeat' (first | ((first | apply U_ | (apply Ug_; exact rfl; exact rfl) | (apply Ugq_; exact rfl; exact rfl)); (first | exact QX.B TYok | exact QX.Len TYok | exact QX.Ext TYok | exact QX.Build TYok | exact QCd (h7)); exact rfl) | refine SX.Alloc TYok (h := ?_) | refine SX.Store TYok (h := ?_) | refine SX.Box TYok (h := ?_) | refine SC ?_ | refine SG ?_ | (refine W.condA (ht := fun hb => ?_) (hf := fun hb => ?_) <;> (try simp at hb) <;> (try (exfalso; omega))))
      exact FinM.ret ResM.auto
    · have hlv : (digs v).length ≠ 0 := fun e => hv (hv0.1 e)
      have h6 := rover_ok (digs u) (digs v) (digs_norm _).dig (digs_norm _).dig (by omega) (by omega) (by rw [val_digs g2]; omega)
      rw [val_digs g1, val_digs g2] at h6
      have r0 := Int.emod_nonneg u hv
      have r1 := Int.emod_lt_of_pos u (show 0 < v by omega)
      have r2 := gcd_step g1 (show 0 < v by omega)
      repeat' (first | ((first | apply U_ | (apply Ug_; exact rfl; exact rfl) | (apply Ugq_; exact rfl; exact rfl)); (first | exact QX.B TYok | exact QX.Len TYok | exact QX.Ext TYok | exact QX.Build TYok | exact QCd (h6)); exact rfl) | refine SX.Alloc TYok (h := ?_) | refine SX.Store TYok (h := ?_) | refine SX.Box TYok (h := ?_) | refine SC ?_ | refine SG ?_ | (refine W.condA (ht := fun hb => ?_) (hf := fun hb => ?_) <;> (try simp at hb) <;> (try (exfalso; omega))))
      · refine ⟨(v, u % v), ⟨g2, r0, by rw [r2]; exact g3, g5, by omega⟩, ?_, by (try simp only); omega⟩
        exact Le.auto
      · exact absurd (by rw [hb]; rfl) hlv
section
variable (s t : Int) (l m : List Int) (hl : l.length ≤ 9223372036854775807) (hm : m.length ≤ 9223372036854775807) (h : ¬ (rightB s l = true ∧ rightB t m = true))
include hl hm h
end
end Go.Proofs.YtjedkgogjehigaaGreat
end
section
set_option linter.unusedVariables false
set_option linter.unusedSimpArgs false
set_option maxHeartbeats 8000000
set_option linter.unusedSectionVars false
namespace Go.Proofs.YtjedkgogjehigaaGreat
open Lf Go
attribute [local irreducible] PureOp EffOp Ev RG W Then InBlock Lf.Fin nth App InitE Pick SubE EvL EvD EvP EvR ResL Lf.Lex SubR SubBR RA RAll EvC FinO FinM ResM ResD FinS val pw digs trimL
section
theorem Q_remS {P : Program} {G : Ghost} {n0 : Nat} {env : List (Nat × (Prop × AV))} {bl : List (Nat × Blk)} {p : Prop} {dst : Option Nat} {ty : TypeId} {pos : String} {after : Array Edge} {gd : Option (Nat × Bool)} {xt yt : Nat} {x y : Operand} {m n r : Int} (hr : m.tmod n = r) (hz : n ≠ 0) (hx : Ev (St.mk n0 env bl) p x (.pv (.one (.int .i64 m)))) (hy : Ev (St.mk n0 env bl) p y (.pv (.one (.int .i64 n)))) :
    PureOp P G (St.mk n0 env bl) ⟨dst, .binOp .rem xt x y yt, ty, pos, after, gd⟩ p (.pv (.one (.int .i64 r))) := by
  have h := Q_rem (P := P) (G := G) (dst := dst) (ty := ty) (pos := pos) (after := after) (gd := gd) (xt := xt) (yt := yt) hx hy (fun _ => hz)
  rw [hr] at h
  exact h
theorem Q_quoS {P : Program} {G : Ghost} {n0 : Nat} {env : List (Nat × (Prop × AV))} {bl : List (Nat × Blk)} {p : Prop} {dst : Option Nat} {ty : TypeId} {pos : String} {after : Array Edge} {gd : Option (Nat × Bool)} {xt yt : Nat} {x y : Operand} {m n r : Int} (hr : m.tdiv n = r) (hz : n ≠ 0) (hb : -9223372036854775808 ≤ r ∧ r ≤ 9223372036854775807) (hx : Ev (St.mk n0 env bl) p x (.pv (.one (.int .i64 m)))) (hy : Ev (St.mk n0 env bl) p y (.pv (.one (.int .i64 n)))) :
    PureOp P G (St.mk n0 env bl) ⟨dst, .binOp .quo xt x y yt, ty, pos, after, gd⟩ p (.pv (.one (.int .i64 r))) := by
  have h := Q_quo (P := P) (G := G) (dst := dst) (ty := ty) (pos := pos) (after := after) (gd := gd) (xt := xt) (yt := yt) hx hy (fun _ => hz)
  rw [hr, i64_id hb] at h
  exact h
theorem rof_zero : ACalls Tryz.prog 59 [cI 0] (.pv (zB 0)) := by
  refine ACalls.of_M TYok (qs := [zB 0]) [.cell 2 38] 28 Tryz.func59 (by kernel_rfl) rfl rfl rfl fun G => ?_
  refine W.initA (hw := ?_)
  repeat' (first | ((first | apply U_); (first | exact QX.B TYok | exact QX.Build TYok); exact rfl) | refine SX.Alloc TYok (h := ?_) | refine SX.Store TYok (h := ?_) | refine SX.Lit TYok (h := ?_) | refine SX.App TYok (h := ?_) | refine SC ?_ | (apply S_isnil TYok; exact rfl; exact rfl; exact rfl; exact Ev.auto; intro bn hnil) | (refine W.condA (ht := fun hb => ?_) (hf := fun hb => ?_) <;> (try simp at hb) <;> (try (exfalso; omega))))
  exact FinM.ret (ResM.cell rfl rfl rfl rfl zeroSubZ ResM.nil)
theorem rof_neg (x : Int) (hx : i64B x) (h0 : x < 0) : ACalls Tryz.prog 59 [cI x] (.pv (zB x)) := by
  have c1 := sgn_cases x
  have hx' := hx
  unfold i64B at hx'
  have key : ∀ l : List Int, OfI x l 0 → l.length ≤ 10 → ACalls Tryz.prog 91 [cI (-1), slI l] (.pv (zB x)) := fun l hl hll =>
    rmade_ok (-1) l hl.dig (by omega) x (by omega) (by rw [hl.done]; omega)
  have m0 := i64_mag hx
  have m1 := mag_nn x
  have ex : -(mag x) = x := by omega
  refine ACalls.of_M TYok (qs := [zB x]) [.cell 2 38] 28 Tryz.func59 (by kernel_rfl) rfl rfl rfl fun G => ?_
  refine W.initA (hw := ?_)
  repeat' (first | (exfalso; omega) | ((first | apply U_); (first | exact QX.B TYok | exact QX.Build TYok); exact rfl) | refine SX.Alloc TYok (h := ?_) | refine SX.Store TYok (h := ?_) | refine SX.Lit TYok (h := ?_) | refine SX.App TYok (h := ?_) | refine SC ?_ | (apply S_isnil TYok; exact rfl; exact rfl; exact rfl; exact Ev.auto; intro bn hnil) | (refine W.condA (ht := fun hb => ?_) (hf := fun hb => ?_) <;> (try simp at hb) <;> (try (exfalso; omega))))
  refine W.weaken (Le.nilOwn (t := 4) (n := 22) (E := 3) (sz := 1) rfl) ?_
  apply W.loopP (σ := Int × List Int) 28 [] (fun (u, l) => OfI x l u ∧ l.length ≤ 4) (fun (u, l) => [(0, vI (-u)), (4, (True, .slc 22)), (3, vI (-1)), (2, (True, .addr 2 0 0))]) (fun (u, l) => [(2, ⟨38, 2, [[.int .i64 0, .slnil]]⟩), (22, ⟨3, 1, l.map Lf.encI⟩)]) (fun (u, l) => u.toNat) ((mag x, []))
  case hp => repeat (first | exact Pick.nil | apply Pick.cons rfl)
  case h0 =>
    refine ⟨⟨⟨Dig.nil, m1, by simp [val, pw]⟩, by simp⟩, ?_⟩
    dsimp only
    rw [ex]
    exact Le.auto
  case round =>
    rintro ⟨u, l⟩ ⟨g1, gl⟩
    dsimp only at g1 gl ⊢
    have g2 := g1.short hx
    have g3 := g1.u0
    have g6 : u ≤ mag x := by
      have := g1.eq
      have := val_lo g1.dig
      have := pw_pos l.length
      have : 1 * u ≤ pw l.length * u := Int.mul_le_mul_of_nonneg_right (by omega) g3
      omega
    apply W.norm (by repeat (first | exact App.nil | apply App.cons))
    by_cases hu : 0 < u
    · have g4 := g2.1 hu
      have e1 : (-u).tmod 1048576 = -(u % 1048576) := by rw [Int.neg_tmod, Int.tmod_eq_emod_of_nonneg g3]
      have e2 : (-u).tdiv 1048576 = -(u / 1048576) := by rw [Int.neg_tdiv, Int.tdiv_eq_ediv_of_nonneg g3]
      repeat' (first | ((first | apply U_); (first | (apply Q_quoS e2 (by decide) (by omega); exact Ev.auto; exact Ev.auto) | (apply Q_remS e1 (by decide); exact Ev.auto; exact Ev.auto) | exact QX.B TYok | exact QX.Build TYok); exact rfl) | refine SX.Alloc TYok (h := ?_) | refine SX.Store TYok (h := ?_) | refine SX.Lit TYok (h := ?_) | refine SX.App TYok (h := ?_) | refine SC ?_ | (apply S_isnil TYok; exact rfl; exact rfl; exact rfl; exact Ev.auto; intro bn hnil) | (refine W.condA (ht := fun hb => ?_) (hf := fun hb => ?_) <;> (try simp at hb) <;> (try (exfalso; omega))))
      · refine ⟨(u / 1048576, l ++ [u % 1048576]), ⟨g1.step, by simp; omega⟩, ?_, by (try simp only); omega⟩
        dsimp only
        try rw [Int.neg_neg]
        exact Le.auto
      · have e0 : -(u % 1048576) = u % 1048576 := by omega
        refine ⟨(u / 1048576, l ++ [u % 1048576]), ⟨g1.step, by simp; omega⟩, ?_, by (try simp only); omega⟩
        dsimp only
        rw [e0]
        exact Le.auto
    · obtain rfl : u = 0 := by omega
      have g5 : l.length ≤ 10 := by omega
      have k1 := key l g1 g5
      repeat' (first | (refine W.weaken (Le.freeze1 (m := 22) rfl) ?_; apply W.region (id := 13)) | ((first | apply U_); (first | exact QX.B TYok | exact QX.Build TYok | exact QCd (k1)); exact rfl) | refine SX.Alloc TYok (h := ?_) | refine SX.Store TYok (h := ?_) | refine SX.Lit TYok (h := ?_) | refine SX.App TYok (h := ?_) | refine SC ?_ | (apply S_isnil TYok; exact rfl; exact rfl; exact rfl; exact Ev.auto; intro bn hnil) | (refine W.condA (ht := fun hb => ?_) (hf := fun hb => ?_) <;> (try simp at hb) <;> (try (exfalso; omega))))
      exact FinM.ret ResM.auto
theorem rof_pos (x : Int) (hx : i64B x) (h0 : 0 < x) : ACalls Tryz.prog 59 [cI x] (.pv (zB x)) := by
  have c1 := sgn_cases x
  have hx' := hx
  unfold i64B at hx'
  have key : ∀ l : List Int, OfI x l 0 → l.length ≤ 10 → ACalls Tryz.prog 91 [cI (1), slI l] (.pv (zB x)) := fun l hl hll =>
    rmade_ok (1) l hl.dig (by omega) x (by omega) (by rw [hl.done]; omega)
  have m0 := i64_mag hx
  have m1 := mag_nn x
  have ex : mag x = x := by omega
  refine ACalls.of_M TYok (qs := [zB x]) [.cell 2 38] 28 Tryz.func59 (by kernel_rfl) rfl rfl rfl fun G => ?_
  refine W.initA (hw := ?_)
  repeat' (first | (exfalso; omega) | ((first | apply U_); (first | exact QX.B TYok | exact QX.Build TYok); exact rfl) | refine SX.Alloc TYok (h := ?_) | refine SX.Store TYok (h := ?_) | refine SX.Lit TYok (h := ?_) | refine SX.App TYok (h := ?_) | refine SC ?_ | (apply S_isnil TYok; exact rfl; exact rfl; exact rfl; exact Ev.auto; intro bn hnil) | (refine W.condA (ht := fun hb => ?_) (hf := fun hb => ?_) <;> (try simp at hb) <;> (try (exfalso; omega))))
  refine W.weaken (Le.nilOwn (t := 4) (n := 22) (E := 3) (sz := 1) rfl) ?_
  apply W.loopP (σ := Int × List Int) 28 [] (fun (u, l) => OfI x l u ∧ l.length ≤ 4) (fun (u, l) => [(0, vI (u)), (4, (True, .slc 22)), (3, vI (1)), (2, (True, .addr 2 0 0))]) (fun (u, l) => [(2, ⟨38, 2, [[.int .i64 0, .slnil]]⟩), (22, ⟨3, 1, l.map Lf.encI⟩)]) (fun (u, l) => u.toNat) ((mag x, []))
  case hp => repeat (first | exact Pick.nil | apply Pick.cons rfl)
  case h0 =>
    refine ⟨⟨⟨Dig.nil, m1, by simp [val, pw]⟩, by simp⟩, ?_⟩
    dsimp only
    rw [ex]
    exact Le.auto
  case round =>
    rintro ⟨u, l⟩ ⟨g1, gl⟩
    dsimp only at g1 gl ⊢
    have g2 := g1.short hx
    have g3 := g1.u0
    have g6 : u ≤ mag x := by
      have := g1.eq
      have := val_lo g1.dig
      have := pw_pos l.length
      have : 1 * u ≤ pw l.length * u := Int.mul_le_mul_of_nonneg_right (by omega) g3
      omega
    apply W.norm (by repeat (first | exact App.nil | apply App.cons))
    by_cases hu : 0 < u
    · have g4 := g2.1 hu
      repeat' (first | ((first | apply U_); (first | exact QX.B TYok | exact QX.Build TYok); exact rfl) | refine SX.Alloc TYok (h := ?_) | refine SX.Store TYok (h := ?_) | refine SX.Lit TYok (h := ?_) | refine SX.App TYok (h := ?_) | refine SC ?_ | (apply S_isnil TYok; exact rfl; exact rfl; exact rfl; exact Ev.auto; intro bn hnil) | (refine W.condA (ht := fun hb => ?_) (hf := fun hb => ?_) <;> (try simp at hb) <;> (try (exfalso; omega))))
      refine ⟨(u / 1048576, l ++ [u % 1048576]), ⟨g1.step, by simp; omega⟩, ?_, by (try simp only); omega⟩
      exact Le.auto
    · obtain rfl : u = 0 := by omega
      have g5 : l.length ≤ 10 := by omega
      have k1 := key l g1 g5
      repeat' (first | (refine W.weaken (Le.freeze1 (m := 22) rfl) ?_; apply W.region (id := 13)) | ((first | apply U_); (first | exact QX.B TYok | exact QX.Build TYok | exact QCd (k1)); exact rfl) | refine SX.Alloc TYok (h := ?_) | refine SX.Store TYok (h := ?_) | refine SX.Lit TYok (h := ?_) | refine SX.App TYok (h := ?_) | refine SC ?_ | (apply S_isnil TYok; exact rfl; exact rfl; exact rfl; exact Ev.auto; intro bn hnil) | (refine W.condA (ht := fun hb => ?_) (hf := fun hb => ?_) <;> (try simp at hb) <;> (try (exfalso; omega))))
      exact FinM.ret ResM.auto
theorem rof_ok (x : Int) (hx : i64B x) : ACalls Tryz.prog 59 [cI x] (.pv (zB x)) := by
  by_cases h0 : x = 0
  · subst h0; exact rof_zero
  · by_cases h1 : x < 0
    · exact rof_neg x hx h1
    · exact rof_pos x hx (by omega)
end
end Go.Proofs.YtjedkgogjehigaaGreat
end
section
set_option linter.unusedVariables false
set_option linter.unusedSimpArgs false
set_option maxHeartbeats 8000000
set_option linter.unusedSectionVars false
namespace Go.Proofs.YtjedkgogjehigaaGreat
open Lf Go
attribute [local irreducible] PureOp EffOp Ev RG W Then InBlock Lf.Fin nth App InitE Pick SubE EvL EvD EvP EvR ResL Lf.Lex SubR SubBR RA RAll EvC FinO FinM ResM ResD FinS val pw digs trimL
section
attribute [local irreducible] sgn mag gcdZ quoZ remZ fullZ fullE
theorem qnew_pos (x y : Int) (hx : okZ x) (hy : okZ y) (h0 : 0 < y) : ACalls Tryz.prog 58 [zB x, zB y] (.tup [zF2 (quoZ x (gcdZ x y)) (quoZ y (gcdZ x y)), cI 0]) := by
  have r1 := rright_yes hx
  have r2 := rright_yes hy
  have cy := sgn_cases y
  have hg := gcd_pos (x := x) (show y ≠ 0 by omega)
  have og := gcd_lt hx hy
  have g1 := rgcdZ_ok x y hx hy
  have d1 := rdivZ_ok x (gcdZ x y) hx og (by omega)
  have d2 := rdivZ_ok y (gcdZ x y) hy og (by omega)
  generalize quoZ x (gcdZ x y) = a at *
  generalize quoZ y (gcdZ x y) = b at *
  generalize gcdZ x y = g at *
  refine ACalls.of_M TYok (qs := [zF2 a b, cI 0]) [.cell 4 40, .tmp 5] 57 Tryz.func58 (by kernel_rfl) rfl rfl rfl fun G => ?_
  refine W.initA (hw := ?_)
  repeat' (first | ((first | apply U_ | (apply Ug_; exact rfl; exact rfl) | (apply Ugq_; exact rfl; exact rfl)); (first | exact QX.B TYok | exact QX.Ext TYok | exact QX.Build TYok | exact QCd (r1) | exact QCd (r2) | exact QCd (g1) | exact QCd (d1) | exact QCd (d2)); exact rfl) | refine SX.Alloc TYok (h := ?_) | refine SX.Store TYok (h := ?_) | refine SX.Box TYok (h := ?_) | refine SC ?_ | (apply S_isnil TYok; exact rfl; exact rfl; exact rfl; exact Ev.auto; intro bn hnil) | refine SG ?_ | (refine W.condA (ht := fun hb => ?_) (hf := fun hb => ?_) <;> (try simp at hb) <;> (try (exfalso; omega))))
  all_goals exact FinM.ret ResM.auto
theorem qnew_neg (x y : Int) (hx : okZ x) (hy : okZ y) (h0 : y < 0) : ACalls Tryz.prog 58 [zB x, zB y] (.tup [zF2 (quoZ (-x) (gcdZ (-x) (-y))) (quoZ (-y) (gcdZ (-x) (-y))), cI 0]) := by
  have r1 := rright_yes hx
  have r2 := rright_yes hy
  have cy := sgn_cases y
  have n1 := rneg_ok x hx
  have n2 := rneg_ok y hy
  have ox := okZ_neg hx
  have oy := okZ_neg hy
  have hg := gcd_pos (x := -x) (show -y ≠ 0 by omega)
  have og := gcd_lt ox oy
  have g1 := rgcdZ_ok (-x) (-y) ox oy
  have d1 := rdivZ_ok (-x) (gcdZ (-x) (-y)) ox og (by omega)
  have d2 := rdivZ_ok (-y) (gcdZ (-x) (-y)) oy og (by omega)
  generalize quoZ (-x) (gcdZ (-x) (-y)) = a at *
  generalize quoZ (-y) (gcdZ (-x) (-y)) = b at *
  generalize gcdZ (-x) (-y) = g at *
  refine ACalls.of_M TYok (qs := [zF2 a b, cI 0]) [.cell 4 40, .tmp 5] 57 Tryz.func58 (by kernel_rfl) rfl rfl rfl fun G => ?_
  refine W.initA (hw := ?_)
  repeat' (first | ((first | apply U_ | (apply Ug_; exact rfl; exact rfl) | (apply Ugq_; exact rfl; exact rfl)); (first | exact QX.B TYok | exact QX.Ext TYok | exact QX.Build TYok | exact QCd (r1) | exact QCd (r2) | exact QCd (n1) | exact QCd (n2) | exact QCd (g1) | exact QCd (d1) | exact QCd (d2)); exact rfl) | refine SX.Alloc TYok (h := ?_) | refine SX.Store TYok (h := ?_) | refine SX.Box TYok (h := ?_) | refine SC ?_ | (apply S_isnil TYok; exact rfl; exact rfl; exact rfl; exact Ev.auto; intro bn hnil) | refine SG ?_ | (refine W.condA (ht := fun hb => ?_) (hf := fun hb => ?_) <;> (try simp at hb) <;> (try (exfalso; omega))))
  all_goals exact FinM.ret ResM.auto
theorem qnew_ok (x y : Int) (hx : okZ x) (hy : okZ y) (h0 : y ≠ 0) : ACalls Tryz.prog 58 [zB x, zB y] (.tup [zF (Rat.divInt x y), cI 0]) := by
  by_cases h : 0 < y
  · obtain ⟨e1, e2⟩ := divInt_pos (x := x) h
    have := qnew_pos x y hx hy h
    rwa [← e1, ← e2] at this
  · obtain ⟨e1, e2⟩ := divInt_pos (x := -x) (y := -y) (by omega)
    have := qnew_neg x y hx hy (by omega)
    rw [← e1, ← e2, divInt_flip] at this
    exact this
theorem qof_ok (p q : Int) (hp : i64B p) (hq : i64B q) (h0 : q ≠ 0) : ACalls Tryz.prog 34 [cI p, cI q] (.tup [zF (Rat.divInt p q), cI 0]) := by
  have z1 := rof_ok p hp
  have z2 := rof_ok q hq
  have n1 := qnew_ok p q (i64_ok hp) (i64_ok hq) h0
  generalize Rat.divInt p q = r at *
  refine ACalls.of_M TYok (qs := [zF r, cI 0]) [.cell 4 40, .tmp 5] 13 Tryz.func34 (by kernel_rfl) rfl rfl rfl fun G => ?_
  refine W.initA (hw := ?_)
  repeat' (first | ((first | apply U_); (first | exact QX.B TYok | exact QX.Ext TYok | exact QCd (z1) | exact QCd (z2) | exact QCd (n1)); exact rfl) | refine SX.Alloc TYok (h := ?_) | refine SX.Store TYok (h := ?_) | refine SC ?_ | (refine W.condA (ht := fun hb => ?_) (hf := fun hb => ?_) <;> (try simp at hb) <;> (try (exfalso; omega))))
  all_goals exact FinM.ret ResM.auto
end
section
attribute [local irreducible] sgn mag gcdZ quoZ remZ fullZ fullE
theorem fullE_no {z : Int} (h : ¬ okZ z) : ¬ fullE z = 0 := by rw [(full_no h).2]; decide
end
section
attribute [local irreducible] sgn mag gcdZ quoZ remZ fullZ fullE
def subOk (a b : Rat) : Prop := (okZ (a.num * b.den) ∧ okZ (b.num * a.den) ∧ okZ (a.num * b.den - b.num * a.den)) ∧ okZ (a.den * b.den)
theorem okZ_negI {x : Int} : okZ (-x) ↔ okZ x := ⟨fun h => by have := okZ_neg h; rwa [Int.neg_neg] at this, okZ_neg⟩
theorem sub_add (a b : Rat) : subOk a b ↔ addOk a (-b) := by
  unfold subOk addOk sumOk
  rw [Rat.neg_num, Rat.neg_den, Int.neg_mul, okZ_negI, show a.num * (b.den : Int) + -(b.num * a.den) = a.num * b.den - b.num * a.den by omega]
theorem fsub_no (a b : Rat) (ha : okF a) (hb : okF b) (h : ¬ subOk a b) : ACalls Tryz.prog 71 [zF a, zF b] (.tup [zF0, cI 6]) := by
  have r1 := fright_yes a ha
  have r2 := fright_yes b hb
  have n1 := neg_ok b.num hb.1
  have a1 := add_no a (-b) ha (neg_okF hb) (fun k => h ((sub_add a b).2 k))
  rw [show zF (-b) = zF2 (-b.num) b.den by show zF2 (-b).num ((-b).den : Int) = _; rw [Rat.neg_num, Rat.neg_den]] at a1
  refine ACalls.of_M TYok (qs := [zF0, cI 6]) [.cell 4 40, .tmp 5] 25 Tryz.func71 (by kernel_rfl) rfl rfl rfl fun G => ?_
  refine W.initA (hw := ?_)
  repeat' (first | ((first | apply U_ | (apply Ug_; exact rfl; exact rfl) | (apply Ugq_; exact rfl; exact rfl) | apply Lex.u | (apply Lex.g; exact rfl; exact rfl) | (apply Lex.gq; exact rfl; exact rfl)); (first | exact QX.B TYok | exact QX.Ext TYok | exact QX.Build TYok | exact QCd (r1) | exact QCd (r2) | exact QCd (n1) | exact QCd (a1)); exact rfl) | refine SX.Alloc TYok (h := ?_) | refine SX.Store TYok (h := ?_) | refine SX.Box TYok (h := ?_) | refine SC ?_ | refine SG ?_ | (apply W.draw2 (id := 3) [0, 0, 2, 6, 0, 16, 62, 127, 255, 255, 1023, 2047] [[2], [3], [16], [17], [3], [19], [18, 20], [15, 21], [22], [22]] 10 [(15, 4), (16, 8), (17, 65536), (18, 131072), (19, 8), (20, 524288), (21, 1310720), (22, 2129920), (23, 4194304), (24, 4194304)] mixed (by kernel_rfl) rfl rfl) | (refine W.condA (ht := fun hb => ?_) (hf := fun hb => ?_) <;> (try simp at hb) <;> (try (exfalso; omega))))
  all_goals exact FinM.ret ResM.auto
theorem fmul_no (a b : Rat) (ha : okF a) (hb : okF b) (h : ¬ mulOk a b) : ACalls Tryz.prog 72 [zF a, zF b] (.tup [zF0, cI 6]) := by
  have r1 := fright_yes a ha
  have r2 := fright_yes b hb
  have m1 := mulZ_ok a.num b.num ha.1 hb.1
  have m2 := mulZ_ok a.den b.den ha.2 hb.2
  have q1 := quot_no (fullZ (a.num * b.num)) (fullE (a.num * b.num)) (fullZ (a.den * b.den)) (fullE (a.den * b.den)) (by
    unfold mulOk at h
    by_cases k1 : okZ (a.num * b.num)
    · by_cases k2 : okZ (a.den * b.den)
      · exact absurd ⟨k1, k2⟩ h
      · exact .inr (fullE_no k2)
    · exact .inl (fullE_no k1))
  generalize fullZ (a.num * b.num) = w1 at *
  generalize fullE (a.num * b.num) = e1 at *
  generalize fullZ (a.den * b.den) = w2 at *
  generalize fullE (a.den * b.den) = e2 at *
  refine ACalls.of_M TYok (qs := [zF0, cI 6]) [.cell 4 40, .tmp 5] 42 Tryz.func72 (by kernel_rfl) rfl rfl rfl fun G => ?_
  refine W.initA (hw := ?_)
  repeat' (first | ((first | apply U_ | (apply Ug_; exact rfl; exact rfl) | (apply Ugq_; exact rfl; exact rfl)); (first | exact QX.B TYok | exact QX.Ext TYok | exact QX.Build TYok | exact QCd (r1) | exact QCd (r2) | exact QCd (m1) | exact QCd (m2) | exact QCd (q1)); exact rfl) | refine SX.Alloc TYok (h := ?_) | refine SX.Store TYok (h := ?_) | refine SX.Box TYok (h := ?_) | refine SC ?_ | refine SG ?_ | (refine W.condA (ht := fun hb => ?_) (hf := fun hb => ?_) <;> (try simp at hb) <;> (try (exfalso; omega))))
  all_goals exact FinM.ret ResM.auto
theorem fdiv_no (a b : Rat) (ha : okF a) (hb : okF b) (h0 : b.num ≠ 0) (h : ¬ divOk a b) : ACalls Tryz.prog 73 [zF a, zF b] (.tup [zF0, cI 6]) := by
  have r1 := fright_yes a ha
  have r2 := fright_yes b hb
  have cb := sgn_cases b.num
  have m1 := mulZ_ok a.num b.den ha.1 hb.2
  have m2 := mulZ_ok a.den b.num ha.2 hb.1
  have q1 := quot_no (fullZ (a.num * b.den)) (fullE (a.num * b.den)) (fullZ (a.den * b.num)) (fullE (a.den * b.num)) (by
    unfold divOk at h
    by_cases k1 : okZ (a.num * b.den)
    · by_cases k2 : okZ (a.den * b.num)
      · exact absurd ⟨k1, k2⟩ h
      · exact .inr (fullE_no k2)
    · exact .inl (fullE_no k1))
  generalize fullZ (a.num * b.den) = w1 at *
  generalize fullE (a.num * b.den) = e1 at *
  generalize fullZ (a.den * b.num) = w2 at *
  generalize fullE (a.den * b.num) = e2 at *
  refine ACalls.of_M TYok (qs := [zF0, cI 6]) [.cell 4 40, .tmp 5] 49 Tryz.func73 (by kernel_rfl) rfl rfl rfl fun G => ?_
  refine W.initA (hw := ?_)
  repeat' (first | ((first | apply U_ | (apply Ug_; exact rfl; exact rfl) | (apply Ugq_; exact rfl; exact rfl)); (first | exact QX.B TYok | exact QX.Ext TYok | exact QX.Build TYok | exact QCd (r1) | exact QCd (r2) | exact QCd (m1) | exact QCd (m2) | exact QCd (q1)); exact rfl) | refine SX.Alloc TYok (h := ?_) | refine SX.Store TYok (h := ?_) | refine SX.Box TYok (h := ?_) | refine SC ?_ | (apply S_isnil TYok; exact rfl; exact rfl; exact rfl; exact Ev.auto; intro bn hnil) | refine SG ?_ | (refine W.condA (ht := fun hb => ?_) (hf := fun hb => ?_) <;> (try simp at hb) <;> (try (exfalso; omega))))
  all_goals exact FinM.ret ResM.auto
end
end Go.Proofs.YtjedkgogjehigaaGreat
end
section
set_option linter.unusedVariables false
set_option linter.unusedSimpArgs false
set_option maxHeartbeats 8000000
set_option linter.unusedSectionVars false
namespace Go.Proofs.YtjedkgogjehigaaGreat
open Lf Go
attribute [local irreducible] PureOp EffOp Ev RG W Then InBlock Lf.Fin nth App InitE Pick SubE EvL EvD EvP EvR ResL Lf.Lex SubR SubBR RA RAll EvC FinO FinM ResM ResD FinS val pw digs trimL
section
theorem divInt_one (n : Int) : Rat.divInt n 1 = (n : Rat) := by
  obtain ⟨h1, h2⟩ := rat_of (x := n) (y := 1) (by decide) (by unfold gcdZ; simp)
  refine Rat.ext ?_ ?_
  · rw [h1]; rfl
  · have : ((n : Rat).den : Int) = 1 := rfl
    omega
theorem okF_int {n : Int} (h : i64B n) : okF (n : Rat) := by
  rw [← divInt_one]
  exact okF_of (i64_ok h) (i64_ok (by unfold i64B; omega)) (by omega)
theorem addOk_okF {a b : Rat} (h : addOk a b) : okF (a + b) := by
  rw [rat_add]
  exact okF_of h.1.2.2 h.2 (mul_ne (den_ne a) (den_ne b))
theorem mulOk_okF {a b : Rat} (h : mulOk a b) : okF (a * b) := by
  rw [rat_mul]
  exact okF_of h.1 h.2 (mul_ne (den_ne a) (den_ne b))
end
end Go.Proofs.YtjedkgogjehigaaGreat
end
section
set_option linter.unusedVariables false
set_option linter.unusedSimpArgs false
set_option linter.unusedSectionVars false
namespace Lf
open Go Go.RowKit Go.ChangeShapes Go.WideShapes Go.ChangeAt
def allΦ (w : World) : Frz := fun b => match w.heap[b]? with | some (.cells c _ _) => some c | _ => none
theorem fits_all (w : World) : Fits (allΦ w) w := by
  intro b cs h
  unfold allΦ at h
  split at h
  · rename_i c e l he
    obtain rfl := Option.some.inj h
    exact ⟨_, _, he⟩
  · cases h
theorem cell_all {w : World} {a : Addr} {v : Value} (h : w.cell? a = some v) : a.spot = none ∧ (allΦ w a.block).bind (·[a.off]?) = some v := by
  unfold World.cell? at h
  unfold allΦ
  split at h
  · rename_i c e l he
    rw [he]
    split at h
    · cases h
    · rename_i hs
      exact ⟨by simpa using hs, by simpa using h⟩
  · cases h
def TyS (R : Nat → List Cell → Prop) : List (Nat × Nat) → List Cell → Prop
  | [], cl => cl = []
  | (_, ft) :: fs, cl => ∃ a b, cl = a ++ b ∧ R ft a ∧ TyS R fs b
def TyL (T : TT) : Nat → Nat → List Cell → Prop
  | 0, _, _ => False
  | n + 1, t, cl => match (T t).map TI.kind with
    | some (.int k) => ∃ i, cl = [.int k i] ∧ (Lit.int k i).wf = true
    | some .bool => ∃ b, cl = [.bool b]
    | some .string => ∃ s, cl = [.str s] ∧ s.length ≤ maxLen
    | some (.slice e) => ∃ rows, cl = [.sl rows] ∧ rows.length ≤ maxLen ∧ ∀ r ∈ rows, TyL T n e r
    | some (.struct fs) => TyS (TyL T n) fs cl
    | _ => False
def tile (T : TT) : Nat → List (Nat × Nat) → Option Nat
  | o, [] => some o
  | o, (fo, ft) :: fs => bif Nat.beq fo o then (T ft).bind fun ti => tile T (o + ti.sz) fs else none
def sup (T : TT) : Nat → Nat → Bool
  | 0, _ => false
  | n + 1, t => match T t with
    | some ti => (match ti.kind with
      | .int _ | .bool | .string => Nat.beq ti.sz 1
      | .slice e => Nat.beq ti.sz 1 && sup T n e && (match T e with | some te => Nat.blt 0 te.sz | none => false)
      | .struct fs => (match tile T 0 fs with | some s => Nat.beq s ti.sz | none => false) && fs.all fun f => sup T n f.2
      | _ => false)
    | none => false
theorem pick_rows {α : Type} {p : Nat → α → Prop} : ∀ {n : Nat}, (∀ i, i < n → ∃ r, p i r) → ∃ rows : List α, rows.length = n ∧ ∀ i r, rows[i]? = some r → p i r
  | 0, _ => ⟨[], rfl, fun i r h => by simp at h⟩
  | n + 1, h => by
    obtain ⟨rows, h1, h2⟩ := pick_rows (n := n) fun i hi => h i (by omega)
    obtain ⟨r, hr⟩ := h n (by omega)
    refine ⟨rows ++ [r], by simp [h1], fun i s hs => ?_⟩
    rw [List.getElem?_append] at hs
    split at hs
    · exact h2 i s hs
    · rename_i hi
      by_cases he : i = n
      · subst he
        simp [h1] at hs
        exact hs ▸ hr
      · rw [List.getElem?_eq_none (by simp; omega)] at hs
        cases hs
section
variable {P : Program} {T : TT} (hT : TOK P T)
include hT
theorem cellsOf_ti {t : Nat} {ti : TI} (h : T t = some ti) : P.cellsOf t = ti.sz := by
  obtain ⟨i, hi, hs, _⟩ := (hT t ti h).info
  simp [Program.cellsOf, hi, hs]
theorem read {H : Type} {enc : TypeId × Value → H} {w : World} {base : Nat} {spare : Nat → Bool} {held : Bool} : ∀ (n t fuel : Nat) (cs : List Value) (x : DataW H × List MemPlace), sup T n t = true → DataW.trod enc P w base spare held fuel t cs = some x →
    ∃ cl, RelL (allΦ w) cs cl ∧ TyL T n t cl ∧ ∀ ti, T t = some ti → cl.length = ti.sz := by
  intro n
  induction n with
  | zero => intro t fuel cs x hs _; simp [sup] at hs
  | succ n ih =>
    intro t fuel cs x hs h
    cases hti : T t with
    | none => simp [sup, hti] at hs
    | some ti =>
      have hk := (hT t ti hti).kind
      have hz := cellsOf_ti hT hti
      simp only [sup, hti] at hs
      simp only [TyL, hti, Option.map_some]
      cases hkd : ti.kind with
      | int k =>
        rw [hkd] at hk hs
        obtain ⟨i, rfl, hx, hw⟩ := DataW.trod_int hk h
        exact ⟨[.int k i], ⟨.int k i, trivial⟩, ⟨i, rfl, hw⟩, fun tj hj => by obtain rfl := Option.some.inj hj; simpa using (Nat.eq_of_beq_eq_true hs).symm⟩
      | bool =>
        rw [hkd] at hk hs
        obtain ⟨b, rfl, hx⟩ := DataW.trod_bool hk h
        exact ⟨[.bool b], ⟨.bool b, trivial⟩, ⟨b, rfl⟩, fun tj hj => by obtain rfl := Option.some.inj hj; simpa using (Nat.eq_of_beq_eq_true hs).symm⟩
      | string =>
        rw [hkd] at hk hs
        obtain ⟨s, rfl, hx, hw⟩ := DataW.trod_string hk h
        refine ⟨[.str s.data.toList], ⟨.str s, trivial⟩, ⟨_, rfl, ?_⟩, fun tj hj => by obtain rfl := Option.some.inj hj; simpa using (Nat.eq_of_beq_eq_true hs).symm⟩
        rw [Array.length_toList]; exact hw
      | slice e =>
        rw [hkd] at hk hs
        simp only [Bool.and_eq_true] at hs
        obtain ⟨⟨hs1, hs2⟩, hs3⟩ := hs
        cases hte : T e with
        | none => rw [hte] at hs3; cases hs3
        | some te =>
          rw [hte] at hs3
          have hpos := blt_lt hs3
          have hze := cellsOf_ti hT hte
          have hlen1 : ∀ tj, some ti = some tj → 1 = tj.sz := fun tj hj => by obtain rfl := Option.some.inj hj; exact (Nat.eq_of_beq_eq_true hs1).symm
          rcases DataW.trod_slice hk h with ⟨rfl, hx⟩ | ⟨a, len, cap, elems, rest, m, rfl, rfl, hx, hb, hl, hm, hel, hget, _, _⟩
          · exact ⟨[.sl []], ⟨.sl0, trivial⟩, ⟨[], rfl, Nat.zero_le _, fun r hr => by cases hr⟩, hlen1⟩
          · have each : ∀ i, i < len → ∃ cl : List Cell, ∃ ci, w.cells? base (a.add (i * P.cellsOf e)) (P.cellsOf e) = some ci ∧ RelL (allΦ w) ci cl ∧ TyL T n e cl ∧ cl.length = te.sz := by
              intro i hi
              have h1 := hget i hi
              rw [List.getElem?_eq_getElem (by omega)] at h1
              cases hc : w.cells? base (a.add (i * P.cellsOf e)) (P.cellsOf e) with
              | none => rw [hc] at h1; cases h1
              | some ci =>
                rw [hc] at h1
                obtain ⟨cl, g1, g2, g3⟩ := ih e m ci _ hs2 h1
                exact ⟨cl, ci, rfl, g1, g2, g3 te hte⟩
            obtain ⟨rows, hr1, hr2⟩ := pick_rows each
            refine ⟨[.sl rows], ⟨?_, trivial⟩, ⟨rows, rfl, by omega, fun r hr => ?_⟩, hlen1⟩
            · by_cases h0 : len = 0
              · subst h0
                obtain rfl : rows = [] := List.eq_nil_of_length_eq_zero hr1
                exact .slE a cap
              · obtain ⟨b, off, spot⟩ := a
                have cellat : ∀ i j r c, rows[i]? = some r → r[j]? = some c → ∃ v, w.cell? (Addr.add (Addr.add ⟨b, off, spot⟩ (i * te.sz)) j) = some v ∧ Rel (allΦ w) v c := by
                  intro i j r c h1 h2
                  obtain ⟨ci, g1, g2, g3, g4⟩ := hr2 i r h1
                  obtain ⟨v, hv1, hv2⟩ := g2.get h2
                  rw [hze] at g1
                  have hj : j < te.sz := by have := (List.getElem?_eq_some_iff.1 h2).1; omega
                  have := World.cells?_some g1
                  refine ⟨v, ?_, hv2⟩
                  rw [← hv1]
                  exact this.2.2 j hj
                have hrow0 : ∃ r, rows[0]? = some r := ⟨rows[0]'(by omega), List.getElem?_eq_getElem (by omega)⟩
                obtain ⟨r0, hr0⟩ := hrow0
                obtain ⟨_, _, _, _, hl0⟩ := hr2 0 r0 hr0
                obtain ⟨v0, hv0, _⟩ := cellat 0 0 r0 _ hr0 (List.getElem?_eq_getElem (show 0 < r0.length by omega))
                have hz0 : Addr.add (Addr.add ⟨b, off, spot⟩ (0 * te.sz)) 0 = ⟨b, off, spot⟩ := by simp [Addr.add]
                rw [hz0] at hv0
                have hsp : spot = none := (cell_all hv0).1
                subst hsp
                refine .sl b off len cap te.sz rows (fun i j => ((allΦ w b).bind (·[off + (i * te.sz + j)]?)).getD .nilFunc) hr1 hl (fun r hr => ?_) (fun i j r c h1 h2 => ?_) (fun i j r c h1 h2 => ?_)
                · obtain ⟨i, hi⟩ := List.getElem?_of_mem hr
                  obtain ⟨_, _, _, _, g⟩ := hr2 i r hi
                  exact g
                · obtain ⟨v, hv, _⟩ := cellat i j r c h1 h2
                  have := (cell_all hv).2
                  simp only [Addr.add_lit] at this
                  rw [show off + (i * te.sz + j) = off + i * te.sz + j by omega, this]; rfl
                · obtain ⟨v, hv, hv2⟩ := cellat i j r c h1 h2
                  have := (cell_all hv).2
                  simp only [Addr.add_lit] at this
                  rw [show off + (i * te.sz + j) = off + i * te.sz + j by omega, this]; exact hv2
            · obtain ⟨i, hi⟩ := List.getElem?_of_mem hr
              obtain ⟨_, _, _, g, _⟩ := hr2 i r hi
              exact g
      | struct fs =>
        rw [hkd] at hk hs
        obtain ⟨fields, hu, hfs⟩ := hk
        simp only [Bool.and_eq_true] at hs
        obtain ⟨hs1, hs2⟩ := hs
        cases htl : tile T 0 fs with
        | none => rw [htl] at hs1; cases hs1
        | some tot =>
          rw [htl] at hs1
          have htot := Nat.eq_of_beq_eq_true hs1
          obtain ⟨xs, m, rfl, hx, hlen, hxl, hget⟩ := DataW.trod_struct hu h
          have hall : ∀ f ∈ fs, ∃ y, DataW.trod enc P w base spare held m f.2 ((cs.drop f.1).take (P.cellsOf f.2)) = some y := by
            intro f hf
            rw [← hfs] at hf
            obtain ⟨g, hg, rfl⟩ := List.mem_map.1 hf
            obtain ⟨i, hi⟩ := List.getElem?_of_mem hg
            have hi' : fields[i]? = some g := by rw [← hi]; simp
            have hlt : i < xs.length := by rw [hxl]; exact (Array.getElem?_eq_some_iff.1 hi').1
            exact ⟨xs[i], by rw [hget i g hi', List.getElem?_eq_getElem hlt]⟩
          have main : ∀ (gs : List (Nat × Nat)) (o : Nat), (∀ f ∈ gs, ∃ y, DataW.trod enc P w base spare held m f.2 ((cs.drop f.1).take (P.cellsOf f.2)) = some y) → gs.all (fun f => sup T n f.2) = true → tile T o gs = some tot → cs.length = tot →
              ∃ cl, RelL (allΦ w) (cs.drop o) cl ∧ TyS (TyL T n) gs cl ∧ o + cl.length = tot := by
            intro gs
            induction gs with
            | nil =>
              intro o _ _ h1 h2
              simp only [tile, Option.some.injEq] at h1
              refine ⟨[], ?_, rfl, by simp [h1]⟩
              rw [List.drop_eq_nil_of_le (by omega)]
              trivial
            | cons f gs ihs =>
              intro o hall' hsup h1 h2
              obtain ⟨fo, ft⟩ := f
              rw [tile] at h1
              cases hbe : Nat.beq fo o with
              | false => rw [hbe] at h1; cases h1
              | true =>
                have := Nat.eq_of_beq_eq_true hbe
                subst this
                rw [hbe, cond_true] at h1
                cases htf : T ft with
                | none => rw [htf] at h1; cases h1
                | some tf =>
                  rw [htf] at h1
                  simp only [Option.bind_some] at h1
                  simp only [List.all_cons, Bool.and_eq_true] at hsup
                  obtain ⟨y, hy⟩ := hall' _ (List.mem_cons_self ..)
                  obtain ⟨c1, a1, a2, a3⟩ := ih ft m _ y hsup.1 hy
                  obtain ⟨c2, b1, b2, b3⟩ := ihs (fo + tf.sz) (fun g hg => hall' g (List.mem_cons_of_mem _ hg)) hsup.2 h1 h2
                  have hl1 := a3 tf htf
                  refine ⟨c1 ++ c2, ?_, ⟨c1, c2, rfl, a2, b2⟩, by simp; omega⟩
                  have e : cs.drop fo = (cs.drop fo).take tf.sz ++ cs.drop (fo + tf.sz) := by
                    rw [← List.drop_drop, List.take_append_drop]
                  rw [e]
                  rw [cellsOf_ti hT htf] at a1
                  exact a1.append b1
          obtain ⟨cl, c1, c2, c3⟩ := main fs 0 hall hs2 htl (by rw [hlen, hz, htot])
          refine ⟨cl, by simpa using c1, c2, fun tj hj => ?_⟩
          obtain rfl := Option.some.inj hj
          omega
      | array k e => rw [hkd] at hs; cases hs
      | ptr e => rw [hkd] at hs; cases hs
      | map k e => rw [hkd] at hs; cases hs
      | func => rw [hkd] at hs; cases hs
      | iface => rw [hkd] at hs; cases hs
      | other => rw [hkd] at hs; cases hs
/-- A struct that came in. -/
theorem read_struct {H : Type} {enc : TypeId × Value → H} {w : World} {base b0 : Nat} {spare : Nat → Bool} {held : Bool} {r : Reach} {t : Nat} {fs : Array Field} {v : Value} {d : DataW H} {ps : List MemPlace} (n : Nat) (hu : P.underlying t = some (.struct fs)) (hs : sup T n t = true)
    (hval : Value.okWide P w r b0 t v) (hd : DataW.Trod enc P w base spare held t v d ps) : ∃ cs, PRel (allΦ w) v (.agg cs) ∧ TyL T n t cs := by
  obtain ⟨arr, rfl, _⟩ := okWide_struct hu hval
  obtain ⟨fuel, hf⟩ := hd
  obtain ⟨cl, h1, h2, _⟩ := read hT n t fuel _ _ hs hf
  exact ⟨cl, ⟨arr, rfl, h1⟩, h2⟩
end
theorem rows_map {α : Type} {f : α → List Cell} {p : α → Prop} : ∀ {rows : List (List Cell)}, (∀ r ∈ rows, ∃ v, r = f v ∧ p v) → ∃ l : List α, rows = l.map f ∧ ∀ v ∈ l, p v
  | [], _ => ⟨[], rfl, fun v hv => by cases hv⟩
  | r :: rs, h => by
    obtain ⟨v, rfl, hv⟩ := h r (List.mem_cons_self ..)
    obtain ⟨l, rfl, hl⟩ := rows_map fun s hs => h s (List.mem_cons_of_mem _ hs)
    exact ⟨v :: l, rfl, fun u hu => by cases hu with | head => exact hv | tail _ hm => exact hl u hm⟩
theorem Fin.retB {A : St} {t : Nat} {b : Bool} (h : lk A.env t = some (True, .pv (.one (.bool b)))) (hb : b = true) : Lf.Fin [t] [cB true] .ret A :=
  Fin.ret (ResL.cons h rfl (PSub.of_eq (by rw [hb])) ResL.nil)
/-- arguments, one after the other -/
def ArgsL (Φ : Frz) : List Value → List PV → Prop
  | [], [] => True
  | v :: vs, p :: ps => PRel Φ v p ∧ ArgsL Φ vs ps
  | _, _ => False
theorem ArgsL.rel {Φ : Frz} : ∀ {vs : List Value} {ps : List PV}, ArgsL Φ vs ps → vs.length = ps.length ∧ ∀ (j : Nat) (p : PV), ps[j]? = some p → ∃ v, vs[j]? = some v ∧ PRel Φ v p
  | [], [], _ => ⟨rfl, fun j p h => by simp at h⟩
  | v :: vs, p :: ps, h => by
    obtain ⟨h1, h2⟩ := ArgsL.rel h.2
    refine ⟨by simp [h1], fun j q hq => ?_⟩
    cases j with
    | zero => simp at hq; exact ⟨v, rfl, hq ▸ h.1⟩
    | succ j => simpa using h2 j q (by simpa using hq)
theorem ArgsRel.of {Φ : Frz} {vs : List Value} {ps : List PV} (h : ArgsL Φ vs ps) : ArgsRel Φ vs.toArray ps := ⟨by simpa using h.rel.1, fun j p hp => by simpa using h.rel.2 j p hp⟩
theorem ArgsL.nil {Φ : Frz} : ArgsL Φ [] [] := trivial
theorem ArgsL.cons {Φ : Frz} {v : Value} {vs : List Value} {p : PV} {ps : List PV} (h : PRel Φ v p) (hs : ArgsL Φ vs ps) : ArgsL Φ (v :: vs) (p :: ps) := ⟨h, hs⟩
end Lf
end
