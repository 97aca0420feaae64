/-
  Big integers: what a text says (Read); Read and Text turn each other back; the reference's equality; the examples.
-/
import Derived.Test.YtldgkgfkdipdeaaDoorWalk11
import Derived.Test.YtldgkgfkdipdeaaDoorLfLitD
set_option linter.unusedVariables false
set_option linter.unusedSimpArgs false
set_option maxHeartbeats 8000000
namespace Go.Proofs.YtldgkgfkdipdeaaDoor
open Lf Go
attribute [local irreducible] PureOp EffOp Ev RG W Then InBlock Lf.Fin nth App InitE Pick SubE SubF SubG EvL EvD EvP EvR ResL Lf.Lex SubR SubBR RA RAll EvC FinO FinM ResM FinB ResD FinS val pw digs trimL

open Go.RowKit
/-! ### Read -/
def dg (c : UInt8) : Int := c.toNat - 48
def readL : Int → Str → Option Int
  | v, [] => some v
  | v, c :: r => if pw 60 ≤ v * 10 + dg c then none else readL (v * 10 + dg c) r
def DIGS : Str := [48, 49, 50, 51, 52, 53, 54, 55, 56, 57]
def cutF (s : Str) : Str := if [45] <+: s then s.drop 1 else s
def negF (s : Str) : Bool := decide ([45] <+: s)
def badF (t : Str) : Bool := decide (t = []) || decide (((nth t 0).toNat : Int) = 48) || decide (Lib.trimS t DIGS ≠ [])
def readF (s : Str) : Int × Int :=
  if s = [48] then (0, 0) else
  if badF (cutF s) = true then (0, 2) else
  match readL 0 (cutF s) with
  | none => (0, 6)
  | some v => (if negF s = true then -v else v, 0)
theorem readL_drop {v : Int} {t : Str} {k : Nat} (h : k < t.length) : readL v (t.drop k) = if pw 60 ≤ v * 10 + dg (nth t k) then none else readL (v * 10 + dg (nth t k)) (t.drop (k + 1)) := by
  rw [drop_nth h]; rfl
theorem read_ok (s : Str) (hs : s.length ≤ 9223372036854775807) (hd : badF (cutF s) = false → ∀ k, k < (cutF s).length → 0 ≤ dg (nth (cutF s) k) ∧ dg (nth (cutF s) k) ≤ 9) : ACalls Tryd.prog 17 [cS s] (.tup [zB (readF s).1, cI (readF s).2]) := by
  have htl : (cutF s).length ≤ 9223372036854775807 := by
    unfold cutF
    split
    · simp; omega
    · exact hs
  have h1 := cutPrefix_ok s [45] hs
  have h2 := trimS_ok (cutF s) DIGS htl (by decide) (by decide)
  replace h1 : ACalls Tryd.prog 34 [cS s, cS [45]] (.tup [cS (cutF s), cB (negF s)]) := h1
  replace h2 : ACalls Tryd.prog 35 [cS (cutF s), cS [48, 49, 50, 51, 52, 53, 54, 55, 56, 57]] (.pv (cS (Lib.trimS (cutF s) DIGS))) := h2
  by_cases hz : s = [48]
  · have e : readF s = (0, 0) := by rw [readF, if_pos hz]
    rw [e]
    refine ACalls.of_M TYok (qs := [zB 0, cI 0]) [.cell 2 24, .tmp 3] 56 Tryd.func17 (by kernel_rfl) rfl rfl rfl fun G => ?_
    refine W.initA (hw := ?_)
    repeat' (first
      | (exfalso; exact absurd hz ‹¬ s = [48]›)
      | apply RG.nil
      | apply Lex.nil
      | apply Then.n
      | apply Then.r
      | apply Then.x
      | apply InBlock.n
      | apply InBlock.r
      | apply InBlock.hit
      | (apply InBlock.miss; exact rfl)
      | apply W.seq
      | apply W.region
      | apply W.block
      | apply W.skip
      | apply W.ret
      | apply W.exit
      | ((first | apply U_ | (apply Ug_; exact rfl; exact rfl) | (apply Ugq_; exact rfl; exact rfl)); (first
    | exact QX.Move TYok
    | exact QX.Asg TYok
    | exact QX.Ld TYok
    | exact QX.Bin TYok
    | exact QX.Pick TYok
    | exact QX.Len TYok
    | exact QX.Idx TYok
    | exact QX.Idxs TYok
    | exact QX.Ext TYok
    | exact QX.Conv TYok
    | exact QX.Build TYok
    | (apply Q_calld (h1); exact EvD.auto)
    | (apply Q_calld (h2); exact EvD.auto)); exact rfl)
      | refine SX.Alloc TYok (h := ?_)
      | refine SX.Store TYok (h := ?_)
      | refine SX.Lit TYok (h := ?_)
      | (apply S_isnil TYok; exact rfl; exact rfl; exact rfl; exact Ev.auto; intro bn hnil)
      | (apply RG.gT; exact rfl; exact rfl; (first | assumption | decide))
      | (apply RG.gF; exact rfl; exact rfl; (first | assumption | decide | (rw [ne_eq, Bool.not_eq_true]; assumption) | (rw [ne_eq, Bool.not_eq_false]; assumption)); exact rfl)
      | (refine W.condA (ht := fun hb => ?_) (hf := fun hb => ?_) <;> (try simp at hb) <;> (try (exfalso; omega))))
    exact FinM.ret (ResM.cell rfl rfl rfl rfl zeroSubZ (ResM.tmp rfl rfl PSub.rfl' ResM.nil))
  by_cases hbad : badF (cutF s) = true
  · have e : readF s = (0, 2) := by rw [readF, if_neg hz, if_pos hbad]
    rw [e]
    have hno : ¬ ((¬ cutF s = [] ∧ ¬ ((nth (cutF s) 0).toNat : Int) = 48) ∧ Lib.trimS (cutF s) DIGS = []) := fun ⟨⟨a, b⟩, c⟩ => by
      rw [badF, decide_eq_false a, decide_eq_false b, decide_eq_false (fun q => q c)] at hbad; cases hbad
    refine ACalls.of_M TYok (qs := [zB 0, cI 2]) [.cell 2 24, .tmp 3] 56 Tryd.func17 (by kernel_rfl) rfl rfl rfl fun G => ?_
    refine W.initA (hw := ?_)
    repeat' (first
      | (exfalso; exact absurd ‹s = [48]› hz)
      | (exfalso; exact hno (by assumption))
      | apply RG.nil
      | apply Lex.nil
      | apply Then.n
      | apply Then.r
      | apply Then.x
      | apply InBlock.n
      | apply InBlock.r
      | apply InBlock.hit
      | (apply InBlock.miss; exact rfl)
      | apply W.seq
      | apply W.region
      | apply W.block
      | apply W.skip
      | apply W.ret
      | apply W.exit
      | ((first | apply U_ | (apply Ug_; exact rfl; exact rfl) | (apply Ugq_; exact rfl; exact rfl)); (first
    | exact QX.Move TYok
    | exact QX.Asg TYok
    | exact QX.Ld TYok
    | exact QX.Bin TYok
    | exact QX.Pick TYok
    | exact QX.Len TYok
    | exact QX.Idx TYok
    | exact QX.Idxs TYok
    | exact QX.Ext TYok
    | exact QX.Conv TYok
    | exact QX.Build TYok
    | (apply Q_calld (h1); exact EvD.auto)
    | (apply Q_calld (h2); exact EvD.auto)
    | (apply Q_indexs TYok; exact Ev.auto; exact Ev.auto; exact rfl; exact rfl; (intro hg; exact strAt (by simp at hg; exact List.length_pos_iff.2 hg)))); exact rfl)
      | refine SX.Alloc TYok (h := ?_)
      | refine SX.Store TYok (h := ?_)
      | refine SX.Lit TYok (h := ?_)
      | (apply S_isnil TYok; exact rfl; exact rfl; exact rfl; exact Ev.auto; intro bn hnil)
      | (apply RG.gT; exact rfl; exact rfl; (first | assumption | decide))
      | (apply RG.gF; exact rfl; exact rfl; (first | assumption | decide | (rw [ne_eq, Bool.not_eq_true]; assumption) | (rw [ne_eq, Bool.not_eq_false]; assumption)); exact rfl)
      | (refine W.condA (ht := fun hb => ?_) (hf := fun hb => ?_) <;> (try simp at hb) <;> (try (exfalso; omega))))
    exact FinM.ret (ResM.cell rfl rfl rfl rfl zeroSubZ (ResM.tmp rfl rfl PSub.rfl' ResM.nil))
  have hgn : (cutF s = [] ∨ ((nth (cutF s) 0).toNat : Int) = 48) ∨ ¬ Lib.trimS (cutF s) DIGS = [] → False := fun h => hbad (by
    rw [badF]
    rcases h with (h | h) | h
    · rw [decide_eq_true h]; rfl
    · rw [decide_eq_true h, Bool.or_true]; rfl
    · rw [decide_eq_true h, Bool.or_true])
  have hd' := hd (by simpa using hbad)
  have e : readF s = (match readL 0 (cutF s) with | none => (0, 6) | some v => (if negF s = true then -v else v, 0)) := by rw [readF, if_neg hz, if_neg hbad]
  generalize hrl : readL 0 (cutF s) = rl at e
  refine ACalls.of_M TYok (qs := [zB (readF s).1, cI (readF s).2]) [.cell 2 24, .tmp 3] 56 Tryd.func17 (by kernel_rfl) rfl rfl rfl fun G => ?_
  refine W.initA (hw := ?_)
  repeat' (first
    | (exfalso; exact absurd ‹s = [48]› hz)
    | (exfalso; exact hgn (by assumption))
    | apply RG.nil
    | apply Lex.nil
    | apply Then.n
    | apply Then.r
    | apply Then.x
    | apply InBlock.n
    | apply InBlock.r
    | apply InBlock.hit
    | (apply InBlock.miss; exact rfl)
    | apply W.seq
    | apply W.region
    | apply W.block
    | apply W.skip
    | apply W.ret
    | apply W.exit
    | ((first | apply U_ | (apply Ug_; exact rfl; exact rfl) | (apply Ugq_; exact rfl; exact rfl)); (first
    | exact QX.Move TYok
    | exact QX.Asg TYok
    | exact QX.Ld TYok
    | exact QX.Bin TYok
    | exact QX.Pick TYok
    | exact QX.Len TYok
    | exact QX.Idx TYok
    | exact QX.Idxs TYok
    | exact QX.Ext TYok
    | exact QX.Conv TYok
    | exact QX.Build TYok
    | (apply Q_calld (h1); exact EvD.auto)
    | (apply Q_calld (h2); exact EvD.auto)
    | (apply Q_indexs TYok; exact Ev.auto; exact Ev.auto; exact rfl; exact rfl; (intro hg; exact strAt (by simp at hg; exact List.length_pos_iff.2 hg)))
    | (apply Q_bytes TYok; exact Ev.auto; exact rfl; exact rfl; exact rfl; exact rfl; exact rfl; exact rfl)); exact rfl)
    | refine SX.Alloc TYok (h := ?_)
    | refine SX.Store TYok (h := ?_)
    | refine SX.Lit TYok (h := ?_)
    | (apply S_isnil TYok; exact rfl; exact rfl; exact rfl; exact Ev.auto; intro bn hnil)
    | (apply RG.gT; exact rfl; exact rfl; (first | assumption | decide))
    | (apply RG.gF; exact rfl; exact rfl; (first | assumption | decide | (rw [ne_eq, Bool.not_eq_true]; assumption) | (rw [ne_eq, Bool.not_eq_false]; assumption)); exact rfl)
    | (refine W.condA (ht := fun hb => ?_) (hf := fun hb => ?_) <;> (try simp at hb) <;> (try (exfalso; omega))))
  generalize cutF s = t at *
  refine W.weaken (Le.sub (t := 6) (p' := .one (.sl [])) rfl PSub.nil') ?_
  apply W.loopP (σ := Nat × Int) 56 [2, 5, 31, 32] (fun (k, v) => k ≤ t.length ∧ 0 ≤ v ∧ v < pw 60 ∧ readL 0 t = readL v (t.drop k)) (fun (k, v) => [(6, (True, .pv (slI (digs v)))), (33, vI k)]) (fun _ => [(2, ⟨24, 2, [[.int .i64 0, .slnil]]⟩)]) (fun (k, v) => t.length - k) ((0, 0))
  case hp => repeat (first | exact Pick.nil | apply Pick.cons rfl)
  case h0 =>
    refine ⟨⟨by simp, by simp, pw_pos 60, by simp⟩, ?_⟩
    dsimp only
    rw [digs_zero]
    exact Le.auto
  case round =>
    rintro ⟨k, v⟩ ⟨k1, k2, k3, k4⟩
    apply W.norm (by repeat (first | exact App.nil | apply App.cons))
    by_cases hk : k < t.length
    · obtain ⟨d0, d9⟩ := hd' k hk
      rw [readL_drop hk] at k4
      have hp60 : pw 60 < pw 61 := pw_lt (by omega)
      have lv : (digs v).length ≤ 60 := (digs_len k2).2 k3
      have c1 := mul_ok (digs v) [10] (digs_norm v).dig (Dig.cons (by omega) Dig.nil) (by omega) (by simp)
      rw [val_digs k2, val_one] at c1
      have c2 := trim_ok [dg (nth t k)] (by simp)
      rw [trim_digs (Dig.cons (by omega) Dig.nil), val_one] at c2
      have e61 : pw 61 = 1048576 * pw 60 := by rw [pw_succ]
      have l1 : (digs (v * 10)).length ≤ 1000000 := by
        have : (digs (v * 10)).length ≤ 61 := (digs_len (by omega)).2 (by omega)
        omega
      have l2 : (digs (dg (nth t k))).length ≤ 1000000 := by
        have : (digs (dg (nth t k))).length ≤ 1 := (digs_len d0).2 (by rw [pw_succ]; have := pw_pos 0; omega)
        omega
      have c3 := add_ok (digs (v * 10)) (digs (dg (nth t k))) (digs_norm _).dig (digs_norm _).dig l1 l2
      rw [val_digs (by omega), val_digs d0] at c3
      have hlen := digs_len (x := v * 10 + dg (nth t k)) (by omega) (n := 60)
      have hdg : dg (nth t k) = ((nth t k).toNat : Int) - 48 := rfl
      simp only [hdg] at c2 c3 k4 hlen d0 d9
      repeat' (first
        | apply RG.nil
        | apply Lex.nil
        | apply Then.n
        | apply Then.r
        | apply Then.x
        | apply InBlock.n
        | apply InBlock.r
        | apply InBlock.hit
        | (apply InBlock.miss; exact rfl)
        | apply W.seq
        | apply W.region
        | apply W.block
        | apply W.skip
        | apply W.ret
        | apply W.exit
        | ((first | apply U_ | (apply Ug_; exact rfl; exact rfl) | (apply Ugq_; exact rfl; exact rfl)); (first
    | (apply Q_litD TYok; (repeat (first | exact EvR.nil | apply EvR.cons Ev.auto)); exact rfl; exact rfl; exact rfl; exact rfl; exact rfl; exact rfl)
    | exact QX.Move TYok
    | exact QX.Asg TYok
    | exact QX.Ld TYok
    | exact QX.Bin TYok
    | exact QX.Pick TYok
    | exact QX.Len TYok
    | exact QX.Idx TYok
    | exact QX.Idxs TYok
    | exact QX.Ext TYok
    | exact QX.Conv TYok
    | exact QX.Build TYok
    | (apply Q_calld (c1); exact EvD.auto)
    | (apply Q_calld (c2); exact EvD.auto)
    | (apply Q_calld (c3); exact EvD.auto)); exact rfl)
        | refine SX.Alloc TYok (h := ?_)
        | refine SX.Store TYok (h := ?_)
        | refine SX.Lit TYok (h := ?_)
        | (apply S_isnil TYok; exact rfl; exact rfl; exact rfl; exact Ev.auto; intro bn hnil)
        | (apply RG.gT; exact rfl; exact rfl; (first | assumption | decide))
        | (apply RG.gF; exact rfl; exact rfl; (first | assumption | decide | (rw [ne_eq, Bool.not_eq_true]; assumption) | (rw [ne_eq, Bool.not_eq_false]; assumption)); exact rfl)
        | (refine W.condA (ht := fun hb => ?_) (hf := fun hb => ?_) <;> (try simp at hb) <;> (try (exfalso; omega))))
      · have hr : rl = none := by rw [← hrl, k4, if_pos (by omega)]
        have e' : readF s = (0, 6) := by rw [e, hr]
        rw [e']
        exact FinM.ret (ResM.cell rfl rfl rfl rfl zeroSubZ (ResM.tmp rfl rfl PSub.rfl' ResM.nil))
      · refine ⟨(k + 1, v * 10 + (((nth t k).toNat : Int) - 48)), ⟨by omega, by omega, by omega, ?_⟩, ?_, by (try simp only); omega⟩
        · rw [k4, if_neg (by omega)]
        · exact Le.auto
    · have hkt : k = t.length := by omega
      have hr : rl = some v := by rw [← hrl, k4, hkt, List.drop_length]; rfl
      have e' : readF s = (if negF s = true then -v else v, 0) := by rw [e, hr]
      have lv : (digs v).length ≤ 60 := (digs_len k2).2 k3
      have g1 := signed_ok (-1) (digs v) (digs_norm v).dig (by omega) (-v) (.inr (.inl rfl)) (by rw [val_digs k2]; omega)
      have g2 := signed_ok 1 (digs v) (digs_norm v).dig (by omega) v (.inl rfl) (by rw [val_digs k2]; omega)
      rw [e']
      generalize negF s = nb at *
      cases nb
      · rw [if_neg (by decide)]
        repeat' (first
          | apply RG.nil
          | apply Lex.nil
          | apply Then.n
          | apply Then.r
          | apply Then.x
          | apply InBlock.n
          | apply InBlock.r
          | apply InBlock.hit
          | (apply InBlock.miss; exact rfl)
          | apply W.seq
          | apply W.region
          | apply W.block
          | apply W.skip
          | apply W.ret
          | apply W.exit
          | ((first | apply U_ | (apply Ug_; exact rfl; exact rfl) | (apply Ugq_; exact rfl; exact rfl)); (first
    | exact QX.Move TYok
    | exact QX.Asg TYok
    | exact QX.Ld TYok
    | exact QX.Bin TYok
    | exact QX.Pick TYok
    | exact QX.Len TYok
    | exact QX.Idx TYok
    | exact QX.Idxs TYok
    | exact QX.Ext TYok
    | exact QX.Conv TYok
    | exact QX.Build TYok
    | (apply Q_calld (g1); exact EvD.auto)
    | (apply Q_calld (g2); exact EvD.auto)); exact rfl)
          | refine SX.Alloc TYok (h := ?_)
          | refine SX.Store TYok (h := ?_)
          | refine SX.Lit TYok (h := ?_)
          | (apply S_isnil TYok; exact rfl; exact rfl; exact rfl; exact Ev.auto; intro bn hnil)
          | (apply RG.gT; exact rfl; exact rfl; (first | assumption | decide))
          | (apply RG.gF; exact rfl; exact rfl; (first | assumption | decide | (rw [ne_eq, Bool.not_eq_true]; assumption) | (rw [ne_eq, Bool.not_eq_false]; assumption)); exact rfl)
          | (refine W.condA (ht := fun hb => ?_) (hf := fun hb => ?_) <;> (try simp at hb) <;> (try (exfalso; omega))))
        exact FinM.ret ResM.auto
      · rw [if_pos rfl]
        repeat' (first
          | apply RG.nil
          | apply Lex.nil
          | apply Then.n
          | apply Then.r
          | apply Then.x
          | apply InBlock.n
          | apply InBlock.r
          | apply InBlock.hit
          | (apply InBlock.miss; exact rfl)
          | apply W.seq
          | apply W.region
          | apply W.block
          | apply W.skip
          | apply W.ret
          | apply W.exit
          | ((first | apply U_ | (apply Ug_; exact rfl; exact rfl) | (apply Ugq_; exact rfl; exact rfl)); (first
    | exact QX.Move TYok
    | exact QX.Asg TYok
    | exact QX.Ld TYok
    | exact QX.Bin TYok
    | exact QX.Pick TYok
    | exact QX.Len TYok
    | exact QX.Idx TYok
    | exact QX.Idxs TYok
    | exact QX.Ext TYok
    | exact QX.Conv TYok
    | exact QX.Build TYok
    | (apply Q_calld (g1); exact EvD.auto)
    | (apply Q_calld (g2); exact EvD.auto)); exact rfl)
          | refine SX.Alloc TYok (h := ?_)
          | refine SX.Store TYok (h := ?_)
          | refine SX.Lit TYok (h := ?_)
          | (apply S_isnil TYok; exact rfl; exact rfl; exact rfl; exact Ev.auto; intro bn hnil)
          | (apply RG.gT; exact rfl; exact rfl; (first | assumption | decide))
          | (apply RG.gF; exact rfl; exact rfl; (first | assumption | decide | (rw [ne_eq, Bool.not_eq_true]; assumption) | (rw [ne_eq, Bool.not_eq_false]; assumption)); exact rfl)
          | (refine W.condA (ht := fun hb => ?_) (hf := fun hb => ?_) <;> (try simp at hb) <;> (try (exfalso; omega))))
        exact FinM.ret ResM.auto
/-! ### Read: the plain law -/
theorem dropWhile_nil {α : Type} {p : α → Bool} : ∀ {l : List α}, l.dropWhile p = [] → ∀ x ∈ l, p x = true
  | [], _, x, hx => by cases hx
  | y :: r, h, x, hx => by
    rw [List.dropWhile_cons] at h
    split at h
    · rename_i hy
      rcases List.mem_cons.1 hx with rfl | hx
      · exact hy
      · exact dropWhile_nil h x hx
    · cases h
theorem dropWhile_all {α : Type} {p : α → Bool} : ∀ {l : List α}, (∀ x ∈ l, p x = true) → l.dropWhile p = []
  | [], _ => rfl
  | y :: r, h => by rw [List.dropWhile_cons, if_pos (h y (by simp))]; exact dropWhile_all fun x hx => h x (by simp [hx])
theorem trimS_nil {l cs : Str} : Lib.trimS l cs = [] ↔ ∀ x ∈ l, cs.contains x = true := by
  unfold Lib.trimS Lib.trimLeftS Lib.trimRightS
  constructor
  · intro h x hx
    by_cases hc : cs.contains x = true
    · exact hc
    · exfalso
      have h1 := dropWhile_nil h
      have h2 : ∀ l : Str, (∃ y ∈ l, ¬ cs.contains y = true) → ∃ y ∈ l.dropWhile (cs.contains ·), ¬ cs.contains y = true := by
        intro l
        induction l with
        | nil => rintro ⟨y, hy, _⟩; cases hy
        | cons z r ih =>
          rintro ⟨y, hy, hn⟩
          rw [List.dropWhile_cons]
          split
          · rename_i hz
            rcases List.mem_cons.1 hy with rfl | hy
            · exact absurd hz hn
            · exact ih ⟨y, hy, hn⟩
          · exact ⟨y, hy, hn⟩
      obtain ⟨y, hy, hn⟩ := h2 l.reverse ⟨x, by simpa using hx, hc⟩
      exact hn (h1 y (by simpa using hy))
  · intro h
    rw [dropWhile_all (l := l.reverse) fun x hx => h x (by simpa using hx)]
    rfl
theorem dig_dg : ∀ c ∈ DIGS, 0 ≤ dg c ∧ dg c ≤ 9 := by decide
theorem bad_no {t : Str} (h : badF t = false) : ∀ k, k < t.length → 0 ≤ dg (nth t k) ∧ dg (nth t k) ≤ 9 := fun k hk => by
  unfold badF at h
  simp only [Bool.or_eq_false_iff, decide_eq_false_iff_not, ne_eq, Decidable.not_not] at h
  have := (trimS_nil.1 h.2) (nth t k) (nth_mem hk)
  exact dig_dg _ (by simpa using this)
theorem readF_ok (s : Str) (hs : s.length ≤ 9223372036854775807) : ACalls Tryd.prog 17 [cS s] (.tup [zB (readF s).1, cI (readF s).2]) := read_ok s hs bad_no
theorem readL_app : ∀ (a b : Str) (v : Int), readL v (a ++ b) = (readL v a).bind (fun w => readL w b)
  | [], b, v => rfl
  | c :: a, b, v => by
    rw [List.cons_append, readL, readL]
    split
    · rfl
    · exact readL_app a b _
theorem dg_chd : ∀ k : Nat, k < 10 → dg (chd k) = k := by decide
theorem chd_dg (c : UInt8) (h : 0 ≤ dg c ∧ dg c ≤ 9) : chd (dg c).toNat = c := by
  unfold dg at h ⊢
  rw [show (((c.toNat : Int) - 48).toNat) = c.toNat - 48 by omega]
  apply UInt8.toNat_inj.1
  simp only [chd, UInt8.toNat_ofNat']
  omega
open Go.Lib in
theorem read_dec (n : Nat) : (n : Int) < pw 60 → readL 0 (decDigits n) = some (n : Int) := by
  induction n using Nat.strongRecOn with
  | _ n ih =>
    intro h
    by_cases h10 : n < 10
    · rw [decDigits_one h10]
      show readL 0 [chd n] = _
      rw [readL, dg_chd n h10, if_neg (by omega), readL]; simp
    · rw [dec_ge (by omega), readL_app, ih (n / 10) (by omega) (by omega)]
      show readL _ [chd (n % 10)] = _
      rw [readL, dg_chd _ (by omega), if_neg (by omega), readL]
      congr 1; omega
open Go.Lib in
theorem dec_digs (n : Nat) : ∀ c ∈ decDigits n, DIGS.contains c = true := by
  induction n using Nat.strongRecOn with
  | _ n ih =>
    have hc : ∀ k : Nat, k < 10 → DIGS.contains (chd k) = true := by decide
    by_cases h10 : n < 10
    · rw [decDigits_one h10]
      intro c hx
      rw [List.mem_singleton.1 hx]
      exact hc n h10
    · rw [dec_ge (by omega)]
      intro c hx
      rcases List.mem_append.1 hx with hx | hx
      · exact ih (n / 10) (by omega) c hx
      · rw [List.mem_singleton.1 hx]
        exact hc _ (by omega)
open Go.Lib in
theorem dec_head (n : Nat) : 0 < n → 0 < dg (nth (decDigits n) 0) ∧ dg (nth (decDigits n) 0) ≤ 9 := by
  induction n using Nat.strongRecOn with
  | _ n ih =>
    intro h0
    by_cases h10 : n < 10
    · rw [decDigits_one h10]
      have : dg (chd n) = n := dg_chd n h10
      rw [show nth [UInt8.ofNat (48 + n)] 0 = chd n by simp [nth]]
      omega
    · rw [dec_ge (by omega)]
      have e : nth (decDigits (n / 10) ++ [chd (n % 10)]) 0 = nth (decDigits (n / 10)) 0 := by
        have := dec_pos (n / 10)
        unfold nth
        rw [List.getD_eq_getElem?_getD, List.getElem?_append_left this, ← List.getD_eq_getElem?_getD]
      rw [e]
      exact ih (n / 10) (by omega) (by omega)
theorem bad_dec {u : Int} (h : 0 < u) : badF (decZ u) = false := by
  have h1 := dec_pos u.toNat
  have h2 := dec_head u.toNat (by omega)
  unfold badF
  have e1 : ¬ decZ u = [] := fun e => by unfold decZ at e; rw [e] at h1; simp at h1
  have e2 : ¬ ((nth (decZ u) 0).toNat : Int) = 48 := by unfold decZ; unfold dg at h2; omega
  have e3 : Lib.trimS (decZ u) DIGS = [] := trimS_nil.2 (dec_digs _)
  rw [decide_eq_false e1, decide_eq_false e2, decide_eq_false (fun q => q e3)]; rfl
theorem dec_no45 {u : Int} (r : Str) : ¬ decZ u = 45 :: r := fun e => by
  have := dec_digs u.toNat 45 (by unfold decZ at e; rw [e]; simp)
  revert this; decide
theorem cut_dec (u : Int) : cutF (decZ u) = decZ u ∧ negF (decZ u) = false := by
  have h : ¬ [45] <+: decZ u := fun ⟨r, hr⟩ => dec_no45 r hr.symm
  exact ⟨if_neg h, decide_eq_false h⟩
theorem cut_neg (t : Str) : cutF (45 :: t) = t ∧ negF (45 :: t) = true := by
  have h : [45] <+: (45 :: t) := ⟨t, rfl⟩
  exact ⟨by rw [cutF, if_pos h]; rfl, decide_eq_true h⟩
theorem read_txt {x : Int} (hx : okZ x) : readF (txtZ x) = (x, 0) := by
  unfold okZ at hx
  by_cases h : x < 0
  · rw [txtZ, if_pos h, readF, if_neg (fun e => by have := (List.cons.inj e).1; revert this; decide), (cut_neg _).1, (cut_neg _).2, bad_dec (by omega), if_neg (by decide)]
    have := read_dec (-x).toNat (by unfold mag at hx; omega)
    unfold decZ
    rw [this]
    simp only [if_true]
    congr 1; omega
  · rw [txtZ, if_neg h]
    by_cases h0 : x = 0
    · subst h0
      rw [show decZ 0 = [48] from Go.Lib.decDigits_one (i := 0) (by decide), readF, if_pos rfl]
    · have hne : ¬ decZ x = [48] := fun e => by
        have h2 := (dec_head x.toNat (by omega)).1
        unfold decZ at e; rw [e, show nth [(48 : UInt8)] 0 = 48 by simp [nth]] at h2; revert h2; decide
      rw [readF, if_neg hne, (cut_dec x).1, (cut_dec x).2, bad_dec (by omega), if_neg (by decide)]
      have := read_dec x.toNat (by unfold mag at hx; omega)
      unfold decZ
      rw [this]
      simp only [Bool.false_eq_true, if_false]
      congr 1; omega
/-! ### what Read takes is what Text gives -/
theorem decZ_snoc {v : Int} {c : UInt8} (h : 0 < v) (hc : 0 ≤ dg c ∧ dg c ≤ 9) : decZ (v * 10 + dg c) = decZ v ++ [c] := by
  unfold decZ
  rw [dec_ge (u := (v * 10 + dg c).toNat) (by omega), show (v * 10 + dg c).toNat / 10 = v.toNat by omega, show (v * 10 + dg c).toNat % 10 = (dg c).toNat by omega, chd_dg c hc]
theorem readL_dec : ∀ (t : Str) (v w : Int), 0 < v → (∀ c ∈ t, 0 ≤ dg c ∧ dg c ≤ 9) → readL v t = some w → decZ w = decZ v ++ t ∧ 0 < w ∧ (v < pw 60 → w < pw 60)
  | [], v, w, h, _, hr => by
    rw [readL] at hr
    cases hr
    exact ⟨by simp, h, id⟩
  | c :: r, v, w, h, hd, hr => by
    have hc := hd c (by simp)
    rw [readL] at hr
    split at hr
    · cases hr
    · rename_i hlt
      obtain ⟨h1, h2, h3⟩ := readL_dec r (v * 10 + dg c) w (by omega) (fun x hx => hd x (by simp [hx])) hr
      rw [decZ_snoc h hc] at h1
      exact ⟨by rw [h1, List.append_assoc]; rfl, h2, fun _ => h3 (by omega)⟩
theorem digs_of_bad {t : Str} (h : badF t = false) : (∀ c ∈ t, 0 ≤ dg c ∧ dg c ≤ 9) ∧ ∃ c r, t = c :: r ∧ 0 < dg c := by
  have hb := h
  unfold badF at h
  simp only [Bool.or_eq_false_iff, decide_eq_false_iff_not, ne_eq, Decidable.not_not] at h
  have hall : ∀ c ∈ t, 0 ≤ dg c ∧ dg c ≤ 9 := fun c hc => dig_dg _ (by simpa using trimS_nil.1 h.2 c hc)
  refine ⟨hall, ?_⟩
  cases t with
  | nil => exact absurd rfl h.1.1
  | cons c r =>
    refine ⟨c, r, rfl, ?_⟩
    have h1 := hall c (by simp)
    have h2 : ¬ ((c.toNat : Int) = 48) := by
      have := h.1.2
      rwa [show nth (c :: r) 0 = c by simp [nth]] at this
    unfold dg at h1 ⊢; omega
theorem readL_digs {t : Str} {w : Int} (h : badF t = false) (hr : readL 0 t = some w) : decZ w = t ∧ 0 < w ∧ w < pw 60 := by
  obtain ⟨hall, c, r, rfl, hc⟩ := digs_of_bad h
  have h9 := (hall c (by simp)).2
  rw [readL] at hr
  split at hr
  · cases hr
  · rename_i hlt
    obtain ⟨h1, h2, h3⟩ := readL_dec r (0 * 10 + dg c) w (by omega) (fun x hx => hall x (by simp [hx])) hr
    refine ⟨?_, h2, h3 (by omega)⟩
    rw [h1, show (0 : Int) * 10 + dg c = dg c by omega]
    have : decZ (dg c) = [c] := by
      unfold decZ
      rw [Go.Lib.decDigits_one (by omega)]
      exact congrArg (fun x => [x]) (chd_dg c ⟨by omega, h9⟩)
    rw [this]; rfl
/-- what Read says of any text: 0 and the number whose text it is, or 2 or 6 and zero -/
theorem readF_cases (s : Str) : ((readF s).2 = 0 ∧ okZ (readF s).1 ∧ txtZ (readF s).1 = s) ∨ (((readF s).2 = 2 ∨ (readF s).2 = 6) ∧ (readF s).1 = 0) := by
  unfold readF
  by_cases h0 : s = [48]
  · rw [if_pos h0]
    refine .inl ⟨rfl, by unfold okZ; rw [show mag 0 = 0 from rfl]; exact pw_pos 60, ?_⟩
    rw [h0]; exact Go.Lib.decDigits_one (i := 0) (by decide)
  · rw [if_neg h0]
    by_cases hb : badF (cutF s) = true
    · rw [if_pos hb]; exact .inr ⟨.inl rfl, rfl⟩
    · rw [if_neg hb]
      cases hr : readL 0 (cutF s) with
      | none => exact .inr ⟨.inr rfl, rfl⟩
      | some v =>
        obtain ⟨h1, h2, h3⟩ := readL_digs (by simpa using hb) hr
        refine .inl ⟨rfl, ?_, ?_⟩
        · unfold okZ mag
          dsimp only
          split <;> split <;> omega
        · dsimp only
          by_cases hn : [45] <+: s
          · obtain ⟨r, rfl⟩ := hn
            have hc := cut_neg r
            rw [show [45] ++ r = 45 :: r from rfl] at *
            rw [hc.1] at h1
            rw [hc.2, if_pos rfl, txtZ, if_pos (by omega), Int.neg_neg, h1]
          · have e1 : negF s = false := decide_eq_false hn
            have e2 : cutF s = s := if_neg hn
            rw [e2] at h1
            rw [e1, if_neg (by decide), txtZ, if_neg (by omega), h1]
/-! ### what the laws share -/
theorem few_ok (x : Int) (n : Int) (hx : okZ x) : ACalls Tryd.prog 10 [zB x, cI n] (.pv (cB (decide (((digs (mag x)).length : Int) ≤ n)))) := by
  have hl : (digs (mag x)).length ≤ 60 := (digs_len (mag_nn x)).2 hx
  refine ACalls.of_W (qs := [cB (decide (((digs (mag x)).length : Int) ≤ n))]) [4] 10 Tryd.func10 (by kernel_rfl) rfl rfl rfl fun G => ?_
  refine W.initA (hw := ?_)
  repeat' (first
    | apply RG.nil
    | apply Lex.nil
    | apply Then.n
    | apply Then.r
    | apply Then.x
    | apply InBlock.n
    | apply InBlock.r
    | apply InBlock.hit
    | (apply InBlock.miss; exact rfl)
    | apply W.seq
    | apply W.region
    | apply W.block
    | apply W.skip
    | apply W.ret
    | apply W.exit
    | ((first | apply U_); (first
    | exact QX.Move TYok
    | exact QX.Asg TYok
    | exact QX.Fld TYok
    | exact QX.Ld TYok
    | exact QX.Bin TYok
    | exact QX.Len TYok); exact rfl)
    | refine SX.Box TYok (h := ?_)
    | (refine W.condA (ht := fun hb => ?_) (hf := fun hb => ?_) <;> (try simp at hb) <;> (try (exfalso; omega))))
  exact Fin.ret ResL.auto
theorem rsameB_ok (s s' : Int) (a b : List Int) (hl : a.length ≤ 1000000) (hl' : b.length ≤ 1000000) : ACalls Tryd.prog 21 [aB s a, aB s' b] (.pv (cB (decide (s = s') && decide (a = b)))) := by
  by_cases h0 : s = s' ∧ a.length = b.length
  case neg =>
    have e : (decide (s = s') && decide (a = b)) = false := by
      rw [Bool.and_eq_false_iff, decide_eq_false_iff_not, decide_eq_false_iff_not]
      by_cases hs : s = s'
      · exact .inr fun e => h0 ⟨hs, by rw [e]⟩
      · exact .inl hs
    rw [e]
    refine ACalls.of_W (qs := [cB false]) [4] 38 Tryd.func21 (by kernel_rfl) rfl rfl rfl fun G => ?_
    refine W.initA (hw := ?_)
    repeat' (first
      | (exfalso; omega)
      | apply RG.nil
      | apply Lex.nil
      | apply Then.n
      | apply Then.r
      | apply Then.x
      | apply InBlock.n
      | apply InBlock.r
      | apply InBlock.hit
      | (apply InBlock.miss; exact rfl)
      | apply W.seq
      | apply W.region
      | apply W.block
      | apply W.skip
      | apply W.ret
      | apply W.exit
      | (apply W.draw2 (id := 6) [0, 1, 0, 7, 15, 0, 32, 0, 224, 480, 1023] [[2], [27], [5], [28, 29], [30], [3], [32], [5], [33, 34], [35], [31, 36]] 11 [(27, 4), (28, 134217728), (29, 32), (30, 805306368), (31, 1073741824), (32, 8), (33, 4294967296), (34, 32), (35, 25769803776), (36, 34359738368), (37, 70866960384)] mixed (by kernel_rfl) rfl rfl)
      | ((first | apply U_ | (apply Ug_; exact rfl; exact rfl) | (apply Ugq_; exact rfl; exact rfl) | apply Lex.u | (apply Lex.g; exact rfl; exact rfl) | (apply Lex.gq; exact rfl; exact rfl)); (first
    | exact QX.Move TYok
    | exact QX.Asg TYok
    | exact QX.Fld TYok
    | exact QX.Ld TYok
    | exact QX.Bin TYok
    | exact QX.Pick TYok
    | exact QX.Len TYok
    | exact QX.Idx TYok); exact rfl)
      | refine SX.Box TYok (h := ?_)
      | (apply RG.gT; exact rfl; exact rfl; (first | assumption | decide))
      | (apply RG.gF; exact rfl; exact rfl; (first | assumption | decide | (rw [ne_eq, Bool.not_eq_true]; assumption) | (rw [ne_eq, Bool.not_eq_false]; assumption)); exact rfl)
      | (refine W.condA (ht := fun hb => ?_) (hf := fun hb => ?_) <;> (try simp at hb) <;> (try (exfalso; omega))))
    exact Fin.ret ResL.auto
  obtain ⟨rfl, hab⟩ := h0
  rw [decide_eq_true rfl, Bool.true_and]
  refine ACalls.of_W (qs := [cB (decide (a = b))]) [4] 38 Tryd.func21 (by kernel_rfl) rfl rfl rfl fun G => ?_
  refine W.initA (hw := ?_)
  repeat' (first
    | apply RG.nil
    | apply Lex.nil
    | apply Then.n
    | apply Then.r
    | apply Then.x
    | apply InBlock.n
    | apply InBlock.r
    | apply InBlock.hit
    | (apply InBlock.miss; exact rfl)
    | apply W.seq
    | apply W.region
    | apply W.block
    | apply W.skip
    | apply W.ret
    | apply W.exit
    | (apply W.draw2 (id := 6) [0, 1, 0, 7, 15, 0, 32, 0, 224, 480, 1023] [[2], [27], [5], [28, 29], [30], [3], [32], [5], [33, 34], [35], [31, 36]] 11 [(27, 4), (28, 134217728), (29, 32), (30, 805306368), (31, 1073741824), (32, 8), (33, 4294967296), (34, 32), (35, 25769803776), (36, 34359738368), (37, 70866960384)] mixed (by kernel_rfl) rfl rfl)
    | ((first | apply U_ | (apply Ug_; exact rfl; exact rfl) | (apply Ugq_; exact rfl; exact rfl) | apply Lex.u | (apply Lex.g; exact rfl; exact rfl) | (apply Lex.gq; exact rfl; exact rfl)); (first
    | exact QX.Move TYok
    | exact QX.Asg TYok
    | exact QX.Fld TYok
    | exact QX.Ld TYok
    | exact QX.Bin TYok
    | exact QX.Pick TYok
    | exact QX.Len TYok
    | exact QX.Idx TYok); exact rfl)
    | refine SX.Box TYok (h := ?_)
    | (apply RG.gT; exact rfl; exact rfl; (first | assumption | decide))
    | (apply RG.gF; exact rfl; exact rfl; (first | assumption | decide | (rw [ne_eq, Bool.not_eq_true]; assumption) | (rw [ne_eq, Bool.not_eq_false]; assumption)); exact rfl)
    | (refine W.condA (ht := fun hb => ?_) (hf := fun hb => ?_) <;> (try simp at hb) <;> (try (exfalso; omega))))
  apply W.loopP (σ := Nat) 38 [2, 3] (fun k => k ≤ a.length ∧ a.take k = b.take k) (fun k => [(5, vI k)]) (fun _ => [(2, ⟨24, 2, [[.int .i64 s, .sl (a.map Lf.encI)]]⟩), (3, ⟨24, 2, [[.int .i64 s, .sl (b.map Lf.encI)]]⟩)]) (fun k => a.length - k) (0)
  case hp => repeat (first | exact Pick.nil | apply Pick.cons rfl)
  case h0 =>
    refine ⟨by simp, ?_⟩
    exact Le.auto
  case round =>
    rintro k ⟨g1, g2⟩
    apply W.norm (by repeat (first | exact App.nil | apply App.cons))
    repeat' (first
      | apply RG.nil
      | apply Lex.nil
      | apply Then.n
      | apply Then.r
      | apply Then.x
      | apply InBlock.n
      | apply InBlock.r
      | apply InBlock.hit
      | (apply InBlock.miss; exact rfl)
      | apply W.seq
      | apply W.region
      | apply W.block
      | apply W.skip
      | apply W.ret
      | apply W.exit
      | (apply W.draw2 (id := 6) [0, 1, 0, 7, 15, 0, 32, 0, 224, 480, 1023] [[2], [27], [5], [28, 29], [30], [3], [32], [5], [33, 34], [35], [31, 36]] 11 [(27, 4), (28, 134217728), (29, 32), (30, 805306368), (31, 1073741824), (32, 8), (33, 4294967296), (34, 32), (35, 25769803776), (36, 34359738368), (37, 70866960384)] mixed (by kernel_rfl) rfl rfl)
      | ((first | apply U_ | (apply Ug_; exact rfl; exact rfl) | (apply Ugq_; exact rfl; exact rfl) | apply Lex.u | (apply Lex.g; exact rfl; exact rfl) | (apply Lex.gq; exact rfl; exact rfl)); (first
    | exact QX.Move TYok
    | exact QX.Asg TYok
    | exact QX.Fld TYok
    | exact QX.Ld TYok
    | exact QX.Bin TYok
    | exact QX.Pick TYok
    | exact QX.Len TYok
    | exact QX.Idx TYok); exact rfl)
      | refine SX.Box TYok (h := ?_)
      | (apply RG.gT; exact rfl; exact rfl; (first | assumption | decide))
      | (apply RG.gF; exact rfl; exact rfl; (first | assumption | decide | (rw [ne_eq, Bool.not_eq_true]; assumption) | (rw [ne_eq, Bool.not_eq_false]; assumption)); exact rfl)
      | (refine W.condA (ht := fun hb => ?_) (hf := fun hb => ?_) <;> (try simp at hb) <;> (try (exfalso; omega))))
    · rw [decide_eq_false (fun e => by subst e; omega)]
      exact Fin.ret ResL.auto
    · refine ⟨k + 1, ⟨by omega, ?_⟩, ?_, by omega⟩
      · rw [take_nth (by omega), take_nth (by omega), g2, hb]
      · exact Le.auto
    · obtain rfl : k = a.length := by omega
      rw [List.take_length, hab, List.take_length] at g2
      rw [decide_eq_true g2]
      exact Fin.ret ResL.auto
theorem rsameZ_ok (x y : Int) (hx : okZ x) (hy : okZ y) : ACalls Tryd.prog 21 [zB x, zB y] (.pv (cB (decide (x = y)))) := by
  have h := rsameB_ok (sgn x) (sgn y) (digs (mag x)) (digs (mag y)) (by have := num_len hx; omega) (by have := num_len hy; omega)
  rw [show (decide (sgn x = sgn y) && decide (digs (mag x) = digs (mag y))) = decide (x = y) by
    rw [Bool.eq_iff_iff, Bool.and_eq_true, decide_eq_true_iff, decide_eq_true_iff, decide_eq_true_iff]
    exact ⟨fun h => num_inj h.1 h.2, fun h => by rw [h]; exact ⟨rfl, rfl⟩⟩] at h
  exact h
theorem pair_ok (x y e m n : Int) (hx : okZ x) (hy : okZ y) (hm : i64B m) (hn : i64B n) (km : okZ m) (kn : okZ n) : ACalls Tryd.prog 25 [zB x, zB y, cI e, cI m, cI n] (.pv (cB (decide (e = 0) && decide (x = m) && decide (y = n)))) := by
  have h1 := ofZ_ok m hm
  have h2 := ofZ_ok n hn
  have h3 := sameZ_ok x m hx km
  have h4 := sameZ_ok y n hy kn
  refine ACalls.of_W (qs := [cB (decide (e = 0) && decide (x = m) && decide (y = n))]) [10] 25 Tryd.func25 (by kernel_rfl) rfl rfl rfl fun G => ?_
  refine W.initA (hw := ?_)
  repeat' (first
    | apply RG.nil
    | apply Lex.nil
    | apply Then.n
    | apply Then.r
    | apply Then.x
    | apply InBlock.n
    | apply InBlock.r
    | apply InBlock.hit
    | (apply InBlock.miss; exact rfl)
    | apply W.seq
    | apply W.region
    | apply W.block
    | apply W.skip
    | apply W.ret
    | apply W.exit
    | (apply W.draw2 (id := 1) [0, 1, 3, 7, 7, 23, 63, 127, 255, 511, 511, 1535, 4095, 8191, 16383] [[2], [11], [12], [5, 13], [3, 13], [15, 13], [14, 16, 13], [13, 17], [18], [6, 19], [4, 19], [21, 19], [20, 22, 19], [19, 23], [24]] 15 [(11, 4), (12, 2048), (13, 4096), (14, 8224), (15, 8200), (16, 40960), (17, 90112), (18, 139264), (19, 262144), (20, 524352), (21, 524304), (22, 2621440), (23, 5767168), (24, 8912896), (10, 16777216)] mixed (by kernel_rfl) rfl rfl)
    | ((first | apply U_ | (apply Ug_; exact rfl; exact rfl) | (apply Ugq_; exact rfl; exact rfl) | apply Lex.u | (apply Lex.g; exact rfl; exact rfl) | (apply Lex.gq; exact rfl; exact rfl)); (first
    | exact QX.Move TYok
    | exact QX.Asg TYok
    | exact QX.Ld TYok
    | exact QX.Bin TYok
    | exact QX.Pick TYok
    | (apply Q_call (h1); exact EvL.auto; exact rfl)
    | (apply Q_call (h2); exact EvL.auto; exact rfl)
    | (apply Q_call (h3); exact EvL.auto; exact rfl)
    | (apply Q_call (h4); exact EvL.auto; exact rfl)
    | (apply Q_calld (h1); exact EvD.auto)
    | (apply Q_calld (h2); exact EvD.auto)
    | (apply Q_calld (h3); exact EvD.auto)
    | (apply Q_calld (h4); exact EvD.auto)); exact rfl)
    | refine SX.Box TYok (h := ?_)
    | (apply S_isnil TYok; exact rfl; exact rfl; exact rfl; exact Ev.auto; intro bn hnil)
    | (apply RG.gT; exact rfl; exact rfl; (first | assumption | decide))
    | (apply RG.gF; exact rfl; exact rfl; (first | assumption | decide | (rw [ne_eq, Bool.not_eq_true]; assumption) | (rw [ne_eq, Bool.not_eq_false]; assumption)); exact rfl)
    | (refine W.condA (ht := fun hb => ?_) (hf := fun hb => ?_) <;> (try simp at hb) <;> (try (exfalso; omega))))
  all_goals exact Fin.ret ResL.auto
theorem ok_of {x : Int} (h : mag x < pw 10) : okZ x := by unfold okZ; have := pw_lt (show 10 < 60 by omega); omega
set_option maxRecDepth 20000 in
theorem small_ok : GCalls Tryd.prog 2 powC 9 [] (.pv (cB true)) := by
  have o1 : okZ 1048577 := ok_of (by decide +kernel)
  have o2 : okZ (-99999999999) := ok_of (by decide +kernel)
  have o3 : okZ 99999999999 := ok_of (by decide +kernel)
  have o4 : okZ (-7) := ok_of (by decide +kernel)
  have o5 : okZ 2 := ok_of (by decide +kernel)
  have o6 : okZ 7 := ok_of (by decide +kernel)
  have o7 : okZ (-2) := ok_of (by decide +kernel)
  have o8 : okZ (-12) := ok_of (by decide +kernel)
  have o9 : okZ 18 := ok_of (by decide +kernel)
  have o10 : okZ 0 := ok_of (by decide +kernel)
  have o11 : okZ (-5) := ok_of (by decide +kernel)
  have o12 : okZ 9223372036854775808 := ok_of (by decide +kernel)
  have o13 : okZ (-9999999999800000000001) := ok_of (by decide +kernel)
  have o14 : okZ (-4) := ok_of (by decide +kernel)
  have o15 : okZ 1 := ok_of (by decide +kernel)
  have o16 : okZ (-1) := ok_of (by decide +kernel)
  have o17 : okZ 3 := ok_of (by decide +kernel)
  have o18 : okZ 6 := ok_of (by decide +kernel)
  have o19 : okZ 5 := ok_of (by decide +kernel)
  have o20 : okZ (-9223372036854775808) := ok_of (by decide +kernel)
  have i : ∀ x : Int, decide (-9223372036854775808 ≤ x ∧ x ≤ 9223372036854775807) = true → i64B x := fun x h => of_decide_eq_true h
  have a1 := ofZ_ok 1048577 (i _ (by decide))
  have a2 := ofZ_ok (-99999999999) (i _ (by decide))
  have a3 := ofZ_ok 99999999999 (i _ (by decide))
  have a4 := ofZ_ok (-7) (i _ (by decide))
  have a5 := ofZ_ok 2 (i _ (by decide))
  have a6 := ofZ_ok 7 (i _ (by decide))
  have a7 := ofZ_ok (-2) (i _ (by decide))
  have a8 := ofZ_ok (-12) (i _ (by decide))
  have a9 := ofZ_ok 18 (i _ (by decide))
  have a10 := ofZ_ok 0 (i _ (by decide))
  have a11 := ofZ_ok (-5) (i _ (by decide))
  have a12 := ofZ_ok 6 (i _ (by decide))
  have a13 := ofZ_ok 5 (i _ (by decide))
  have m1 := mulZ_ok _ _ o2 o3
  rw [show fullZ (-99999999999 * 99999999999) = -9999999999800000000001 by decide +kernel, show fullE (-99999999999 * 99999999999) = 0 by decide +kernel] at m1
  have d1 := divZ_ok _ _ o4 o5 (by decide)
  rw [show quoZ (-7) 2 = -4 by decide, show remZ (-7) 2 = 1 by decide] at d1
  have d2 := divZ_ok _ _ o6 o7 (by decide)
  rw [show quoZ 7 (-2) = -4 by decide, show remZ 7 (-2) = -1 by decide] at d2
  have d3 := divZ_ok _ _ o4 o7 (by decide)
  rw [show quoZ (-7) (-2) = 3 by decide, show remZ (-7) (-2) = -1 by decide] at d3
  have g1 := gcdZ_ok _ _ o8 o9
  rw [show gcdZ (-12) 18 = 6 by decide +kernel] at g1
  have g2 := gcdZ_ok _ _ o10 o11
  rw [show gcdZ 0 (-5) = 5 by decide +kernel] at g2
  have r1 := readF_ok [48, 48, 55] (by decide)
  rw [show readF [48, 48, 55] = (0, 2) by decide +kernel] at r1
  have r2 := readF_ok [45, 48] (by decide)
  rw [show readF [45, 48] = (0, 2) by decide +kernel] at r2
  have r3 := readF_ok [] (by decide)
  rw [show readF [] = (0, 2) by decide +kernel] at r3
  have n0 : zB 9223372036854775808 = aB 1 [0, 0, 0, 8] := by
    show aB (sgn 9223372036854775808) (digs (mag 9223372036854775808)) = _
    rw [show sgn 9223372036854775808 = 1 by decide +kernel, show digs (mag 9223372036854775808) = [0, 0, 0, 8] by decide +kernel]
  have n1 := intZ_ok _ o12
  rw [show intV 9223372036854775808 = 0 by decide +kernel, decide_eq_false (fun q : i64B 9223372036854775808 => by have := q.2; omega), n0] at n1
  have n2 := neg_ok _ o12
  rw [n0] at n2
  have n3 := intZ_ok _ o20
  rw [show intV (-9223372036854775808) = -9223372036854775808 by decide +kernel, decide_eq_true (i _ (by decide))] at n3
  have s1 := rsameB_ok (sgn 1048577) 1 (digs (mag 1048577)) [1, 1] (by have := num_len o1; omega) (by decide)
  rw [show (decide (sgn 1048577 = 1) && decide (digs (mag 1048577) = [1, 1])) = true by decide +kernel] at s1
  have t1 := text_ok _ o13
  rw [show txtZ (-9999999999800000000001) = [45, 57, 57, 57, 57, 57, 57, 57, 57, 57, 57, 56, 48, 48, 48, 48, 48, 48, 48, 48, 48, 48, 49] by
    have h := readF_cases [45, 57, 57, 57, 57, 57, 57, 57, 57, 57, 57, 56, 48, 48, 48, 48, 48, 48, 48, 48, 48, 48, 49]
    rw [show readF [45, 57, 57, 57, 57, 57, 57, 57, 57, 57, 57, 56, 48, 48, 48, 48, 48, 48, 48, 48, 48, 48, 49] = (-9999999999800000000001, 0) by decide +kernel] at h
    rcases h with h | h
    · exact h.2.2
    · rcases h.1 with h | h <;> cases h] at t1
  have p1 := pair_ok (-4) 1 0 (-4) 1 o14 o15 (i _ (by decide)) (i _ (by decide)) o14 o15
  have p2 := pair_ok (-4) (-1) 0 (-4) (-1) o14 o16 (i _ (by decide)) (i _ (by decide)) o14 o16
  have p3 := pair_ok 3 (-1) 0 3 (-1) o17 o16 (i _ (by decide)) (i _ (by decide)) o17 o16
  have e1 := sameZ_ok 6 6 o18 o18
  have e2 := sameZ_ok 5 5 o19 o19
  rw [decide_eq_true rfl] at e1 e2
  rw [show (decide ((0 : Int) = 0) && decide ((-4 : Int) = -4) && decide ((1 : Int) = 1)) = true by decide] at p1
  rw [show (decide ((0 : Int) = 0) && decide ((-4 : Int) = -4) && decide ((-1 : Int) = -1)) = true by decide] at p2
  rw [show (decide ((0 : Int) = 0) && decide ((3 : Int) = 3) && decide ((-1 : Int) = -1)) = true by decide] at p3
  replace r1 : ACalls Tryd.prog 17 [cS [48, 48, 55]] (.tup [zB 0, cI 2]) := r1
  replace r2 : ACalls Tryd.prog 17 [cS [45, 48]] (.tup [zB 0, cI 2]) := r2
  replace r3 : ACalls Tryd.prog 17 [cS []] (.tup [zB 0, cI 2]) := r3
  refine GCalls.of_M TYok (qs := [cB true]) [.tmp 0] 167 Tryd.func9 (by kernel_rfl) rfl rfl rfl fun G hG => ?_
  refine W.initA (hw := ?_)
  repeat' (first
    | apply RG.nil
    | apply Lex.nil
    | apply Then.n
    | apply Then.r
    | apply Then.x
    | apply InBlock.n
    | apply InBlock.r
    | apply InBlock.hit
    | (apply InBlock.miss; exact rfl)
    | apply W.seq
    | apply W.region
    | apply W.block
    | apply W.skip
    | apply W.ret
    | apply W.exit
    | (apply W.draw2 (id := 15) [0, 1, 3, 7, 15, 31, 63, 63, 255, 511, 1023, 2047, 4095, 8191, 16383, 32767, 32767, 131071, 262143, 524287, 1048575, 2097151, 4194303, 8388607, 16777215, 33554431, 67108863, 134217727, 268435455, 536870911, 1073741823, 2147483647, 4294967295, 8589934591, 17179869183, 34359738367, 68719476735, 137438953471, 274877906943, 549755813887, 1099511627775, 2199023255551, 4398046511103] [[28], [125], [14, 126], [127, 126], [126, 128], [129], [13, 130], [130], [131, 132, 130], [130, 133], [134], [16, 135], [136, 135], [135, 137], [138], [15, 139], [139], [140, 141, 139], [139, 142], [143], [18, 144], [145, 144], [144, 146], [147], [20, 148], [149, 148], [148, 150], [151], [22, 152], [153, 152], [152, 154], [155], [25, 156], [157, 156], [156, 158], [159], [27, 160], [160, 161], [162], [26, 163], [164, 163], [163, 165], [166]] 43 [(125, 268435456), (126, 42535295865117307932921825928971026432), (127, 85070591730234615865843651857942069248), (128, 255211775190703847597530955573826158592), (129, 425352958651173079329218259289710264320), (130, 680564733841876926926749214863536422912), (131, 1361129467683753853853498429727072854016), (132, 1361129467683753853853498429727072845824), (133, 9527906273786276976974489008089509920768), (134, 12250165209153784684681485867543655612416), (135, 21778071482940061661655974875633165533184), (136, 43556142965880123323311949751266331131904), (137, 130668428897640369969935849253798993199104), (138, 217780714829400616616559748756331655331840), (139, 348449143727040986586495598010130648530944), (140, 696898287454081973172991196020261297094656), (141, 696898287454081973172991196020261297061888), (142, 4878288012178573812210938372141829079433216), (143, 6272084587086737758556920764182351673556992), (144, 11150372599265311570767859136324180752990208), (145, 22300745198530623141535718272648361506242560), (146, 66902235595591869424607154817945084517941248), (147, 111503725992653115707678591363241807529902080), (148, 178405961588244985132285746181186892047843328), (149, 356811923176489970264571492362373784096735232), (150, 1070435769529469910793714477087121352287059968), (151, 1784059615882449851322857461811868920478433280), (152, 2854495385411919762116571938898990272765493248), (153, 5708990770823839524233143877797980545535180800), (154, 17126972312471518572699431633393941636592959488), (155, 28544953854119197621165719388989902727654932480), (156, 45671926166590716193865151022383844364247891968), (157, 91343852333181432387730302044767688728529338368), (158, 274031556999544297163190906134303066185487351808), (159, 456719261665907161938651510223838443642478919680), (160, 730750818665451459101842416358141509827966271488), (161, 1461501637330902918203684832716283019656066760704), (162, 4384504911992708754611054498148849058967797628928), (163, 5846006549323611672814739330865132078623730171904), (164, 11692013098647223345629478661730264157247527452672), (165, 35076039295941670036888435985190792471742381031424), (166, 58460065493236116728147393308651320786237301719040), (0, 93536104789177786765035829293842113257979682750464)] mixed (by kernel_rfl) rfl rfl)
    | ((first | apply U_ | (apply Ug_; exact rfl; exact rfl) | (apply Ugq_; exact rfl; exact rfl) | apply Lex.u | (apply Lex.g; exact rfl; exact rfl) | (apply Lex.gq; exact rfl; exact rfl)); (first
    | (apply Q_litD TYok; (repeat (first | exact EvR.nil | apply EvR.cons Ev.auto)); exact rfl; exact rfl; exact rfl; exact rfl; exact rfl; exact rfl)
    | exact QX.Move TYok
    | exact QX.Asg TYok
    | exact QX.Ld TYok
    | exact QX.Bin TYok
    | exact QX.Pick TYok
    | exact QX.Un TYok
    | exact QX.Ext TYok
    | exact QX.Build TYok
    | (apply Q_calld (a1); exact EvD.auto)
    | (apply Q_calld (a2); exact EvD.auto)
    | (apply Q_calld (a3); exact EvD.auto)
    | (apply Q_calld (a4); exact EvD.auto)
    | (apply Q_calld (a5); exact EvD.auto)
    | (apply Q_calld (a6); exact EvD.auto)
    | (apply Q_calld (a7); exact EvD.auto)
    | (apply Q_calld (a8); exact EvD.auto)
    | (apply Q_calld (a9); exact EvD.auto)
    | (apply Q_calld (a10); exact EvD.auto)
    | (apply Q_calld (a11); exact EvD.auto)
    | (apply Q_calld (a12); exact EvD.auto)
    | (apply Q_calld (a13); exact EvD.auto)
    | (apply Q_calld (m1); exact EvD.auto)
    | (apply Q_calld (d1); exact EvD.auto)
    | (apply Q_calld (d2); exact EvD.auto)
    | (apply Q_calld (d3); exact EvD.auto)
    | (apply Q_calld (g1); exact EvD.auto)
    | (apply Q_calld (g2); exact EvD.auto)
    | (apply Q_calld (r1); exact EvD.auto)
    | (apply Q_calld (r2); exact EvD.auto)
    | (apply Q_calld (r3); exact EvD.auto)
    | (apply Q_calld (n1); exact EvD.auto)
    | (apply Q_calld (n2); exact EvD.auto)
    | (apply Q_calld (n3); exact EvD.auto)
    | (apply Q_calld (s1); exact EvD.auto)
    | (apply Q_calld (p1); exact EvD.auto)
    | (apply Q_calld (p2); exact EvD.auto)
    | (apply Q_calld (p3); exact EvD.auto)
    | (apply Q_calld (e1); exact EvD.auto)
    | (apply Q_calld (e2); exact EvD.auto)
    | (apply Q_callG hG (t1); exact EvL.auto; exact rfl)); exact rfl)
    | refine SX.Alloc TYok (h := ?_)
    | refine SX.Store TYok (h := ?_)
    | refine SX.Lit TYok (h := ?_)
    | (apply S_isnil TYok; exact rfl; exact rfl; exact rfl; exact Ev.auto; intro bn hnil)
    | (apply RG.gT; exact rfl; exact rfl; (first | assumption | decide))
    | (apply RG.gF; exact rfl; exact rfl; (first | assumption | decide | (rw [ne_eq, Bool.not_eq_true]; assumption) | (rw [ne_eq, Bool.not_eq_false]; assumption)); exact rfl)
    | (refine W.condA (ht := fun hb => ?_) (hf := fun hb => ?_) <;> (try simp at hb) <;> (try (exfalso; omega))))
  all_goals exact FinM.ret (ResM.tmp rfl rfl (PSub.of_eq (congrArg (fun b => PV.one (Cell.bool b)) (by decide))) ResM.nil)
theorem rightL_ok (s : Int) (l : List Int) (hl : l.length ≤ 9223372036854775807) : ACalls Tryd.prog 11 [aB s l] (.pv (cB (rightB s l))) := by
  refine ACalls.of_W (qs := [cB (rightB s l)]) [2] 49 Tryd.func11 (by kernel_rfl) rfl rfl rfl fun G => ?_
  refine W.initA (hw := ?_)
  repeat' (first
    | apply RG.nil
    | apply Lex.nil
    | apply Then.n
    | apply Then.r
    | apply Then.x
    | apply InBlock.n
    | apply InBlock.r
    | apply InBlock.hit
    | (apply InBlock.miss; exact rfl)
    | apply W.seq
    | apply W.region
    | apply W.block
    | apply W.skip
    | apply W.ret
    | apply W.exit
    | ((first | apply U_ | (apply Ug_; exact rfl; exact rfl) | (apply Ugq_; exact rfl; exact rfl)); (first
    | exact QX.Move TYok
    | exact QX.Asg TYok
    | exact QX.Fld TYok
    | exact QX.Ld TYok
    | exact QX.Bin TYok
    | exact QX.Pick TYok
    | exact QX.Len TYok
    | exact QX.Idx TYok); exact rfl)
    | refine SX.Box TYok (h := ?_)
    | (apply S_isnil TYok; exact rfl; exact rfl; exact rfl; exact Ev.auto; intro bn hnil)
    | (apply RG.gT; exact rfl; exact rfl; (first | assumption | decide))
    | (apply RG.gF; exact rfl; exact rfl; (first | assumption | decide | (rw [ne_eq, Bool.not_eq_true]; assumption) | (rw [ne_eq, Bool.not_eq_false]; assumption)); exact rfl)
    | (refine W.condA (ht := fun hb => ?_) (hf := fun hb => ?_) <;> (try simp at hb) <;> (try (exfalso; omega))))
  apply W.loopP (σ := Nat) 49 [1, 3, 10, 11] (fun k => k ≤ l.length ∧ l.all digB = (l.drop k).all digB) (fun k => [(12, vI k)]) (fun _ => [(1, ⟨24, 2, [[.int .i64 s, .sl (l.map Lf.encI)]]⟩)]) (fun k => l.length - k) (0)
  case hp => repeat (first | exact Pick.nil | apply Pick.cons rfl)
  case h0 =>
    refine ⟨by simp, ?_⟩
    exact Le.auto
  case round =>
    rintro k ⟨g1, g2⟩
    apply W.norm (by repeat (first | exact App.nil | apply App.cons))
    by_cases hk : k < l.length
    · have e : l.all digB = (digB (nth l k) && (l.drop (k + 1)).all digB) := by rw [g2, drop_nth hk, List.all_cons]
      repeat' (first
        | apply RG.nil
        | apply Lex.nil
        | apply Then.n
        | apply Then.r
        | apply Then.x
        | apply InBlock.n
        | apply InBlock.r
        | apply InBlock.hit
        | (apply InBlock.miss; exact rfl)
        | apply W.seq
        | apply W.region
        | apply W.block
        | apply W.skip
        | apply W.ret
        | apply W.exit
        | ((first | apply U_ | (apply Ug_; exact rfl; exact rfl) | (apply Ugq_; exact rfl; exact rfl)); (first
    | exact QX.Move TYok
    | exact QX.Asg TYok
    | exact QX.Fld TYok
    | exact QX.Ld TYok
    | exact QX.Bin TYok
    | exact QX.Pick TYok
    | exact QX.Len TYok
    | exact QX.Idx TYok); exact rfl)
        | refine SX.Box TYok (h := ?_)
        | (apply S_isnil TYok; exact rfl; exact rfl; exact rfl; exact Ev.auto; intro bn hnil)
        | (apply RG.gT; exact rfl; exact rfl; (first | assumption | decide))
        | (apply RG.gF; exact rfl; exact rfl; (first | assumption | decide | (rw [ne_eq, Bool.not_eq_true]; assumption) | (rw [ne_eq, Bool.not_eq_false]; assumption)); exact rfl)
        | (refine W.condA (ht := fun hb => ?_) (hf := fun hb => ?_) <;> (try simp at hb) <;> (try (exfalso; omega))))
      · have e2 : rightB s l = false := by
          rw [rightB, e, show digB (nth l k) = false by
            simp only [digB, Bool.and_eq_false_iff, decide_eq_false_iff_not]; omega]; rfl
        rw [e2]
        exact Fin.ret ResL.auto
      · refine ⟨k + 1, ⟨by omega, ?_⟩, ?_, by omega⟩
        · rw [e, show digB (nth l k) = true by
            simp only [digB, Bool.and_eq_true, decide_eq_true_iff]; omega]; rfl
        · exact Le.auto
    · obtain rfl : k = l.length := by omega
      have e : l.all digB = true := by rw [g2, List.drop_length]; rfl
      by_cases h0 : l.length = 0
      · have e2 : rightB s l = decide (s = 0) := by rw [rightB, e, if_pos h0]; rfl
        repeat' (first
          | apply RG.nil
          | apply Lex.nil
          | apply Then.n
          | apply Then.r
          | apply Then.x
          | apply InBlock.n
          | apply InBlock.r
          | apply InBlock.hit
          | (apply InBlock.miss; exact rfl)
          | apply W.seq
          | apply W.region
          | apply W.block
          | apply W.skip
          | apply W.ret
          | apply W.exit
          | ((first | apply U_ | (apply Ug_; exact rfl; exact rfl) | (apply Ugq_; exact rfl; exact rfl)); (first
    | exact QX.Move TYok
    | exact QX.Asg TYok
    | exact QX.Fld TYok
    | exact QX.Ld TYok
    | exact QX.Bin TYok
    | exact QX.Pick TYok
    | exact QX.Len TYok
    | exact QX.Idx TYok); exact rfl)
          | refine SX.Box TYok (h := ?_)
          | (apply S_isnil TYok; exact rfl; exact rfl; exact rfl; exact Ev.auto; intro bn hnil)
          | (apply RG.gT; exact rfl; exact rfl; (first | assumption | decide))
          | (apply RG.gF; exact rfl; exact rfl; (first | assumption | decide | (rw [ne_eq, Bool.not_eq_true]; assumption) | (rw [ne_eq, Bool.not_eq_false]; assumption)); exact rfl)
          | (refine W.condA (ht := fun hb => ?_) (hf := fun hb => ?_) <;> (try simp at hb) <;> (try (exfalso; omega))))
        · rw [e2]
          exact Fin.ret ResL.auto
        · exact absurd (List.length_eq_zero_iff.1 h0) hb
      · have e2 : rightB s l = ((decide (s = 1) || decide (s = -1)) && decide ((l.length : Int) ≤ 60) && !decide (nth l ((l.length : Int) - 1).toNat = 0)) := by
          rw [rightB, e, if_neg h0, show ((l.length : Int) - 1).toNat = l.length - 1 by omega, show decide (l.length ≤ 60) = decide ((l.length : Int) ≤ 60) from decide_eq_decide.2 (by omega)]; rfl
        repeat' (first
          | apply RG.nil
          | apply Lex.nil
          | apply Then.n
          | apply Then.r
          | apply Then.x
          | apply InBlock.n
          | apply InBlock.r
          | apply InBlock.hit
          | (apply InBlock.miss; exact rfl)
          | apply W.seq
          | apply W.region
          | apply W.block
          | apply W.skip
          | apply W.ret
          | apply W.exit
          | ((first | apply U_ | (apply Ug_; exact rfl; exact rfl) | (apply Ugq_; exact rfl; exact rfl)); (first
    | exact QX.Move TYok
    | exact QX.Asg TYok
    | exact QX.Fld TYok
    | exact QX.Ld TYok
    | exact QX.Bin TYok
    | exact QX.Pick TYok
    | exact QX.Len TYok
    | exact QX.Idx TYok); exact rfl)
          | refine SX.Box TYok (h := ?_)
          | (apply S_isnil TYok; exact rfl; exact rfl; exact rfl; exact Ev.auto; intro bn hnil)
          | (apply RG.gT; exact rfl; exact rfl; (first | assumption | decide))
          | (apply RG.gF; exact rfl; exact rfl; (first | assumption | decide | (rw [ne_eq, Bool.not_eq_true]; assumption) | (rw [ne_eq, Bool.not_eq_false]; assumption)); exact rfl)
          | (refine W.condA (ht := fun hb => ?_) (hf := fun hb => ?_) <;> (try simp at hb) <;> (try (exfalso; omega))))
        · exact absurd (by rw [hb]; rfl) h0
        · rw [e2]
          exact Fin.ret ResL.auto
theorem fewB_ok (s : Int) (l : List Int) (n : Int) (hl : l.length ≤ 9223372036854775807) : ACalls Tryd.prog 10 [aB s l, cI n] (.pv (cB (decide ((l.length : Int) ≤ n)))) := by
  refine ACalls.of_W (qs := [cB (decide ((l.length : Int) ≤ n))]) [4] 10 Tryd.func10 (by kernel_rfl) rfl rfl rfl fun G => ?_
  refine W.initA (hw := ?_)
  repeat' (first
    | apply RG.nil
    | apply Lex.nil
    | apply Then.n
    | apply Then.r
    | apply Then.x
    | apply InBlock.n
    | apply InBlock.r
    | apply InBlock.hit
    | (apply InBlock.miss; exact rfl)
    | apply W.seq
    | apply W.region
    | apply W.block
    | apply W.skip
    | apply W.ret
    | apply W.exit
    | ((first | apply U_); (first
    | exact QX.Move TYok
    | exact QX.Asg TYok
    | exact QX.Fld TYok
    | exact QX.Ld TYok
    | exact QX.Bin TYok
    | exact QX.Len TYok); exact rfl)
    | refine SX.Box TYok (h := ?_)
    | (refine W.condA (ht := fun hb => ?_) (hf := fun hb => ?_) <;> (try simp at hb) <;> (try (exfalso; omega))))
  exact Fin.ret ResL.auto
theorem quo_pos {x y q r P : Int} (h : x = y * q + r) (hy : 0 < y) (h0 : 0 ≤ r) (h1 : r < y) (hx : -P < x ∧ x < P) : -P < q ∧ q < P := by
  constructor
  · by_cases hc : -P < q
    · exact hc
    · exfalso
      have e : (y - 1) * (-(q + 1)) = -(y * q) - y + q + 1 := by grind
      have := Int.mul_nonneg (show 0 ≤ y - 1 by omega) (show 0 ≤ -(q + 1) by omega)
      omega
  · by_cases hc : q < P
    · exact hc
    · exfalso
      have e : (y - 1) * q = y * q - q := by grind
      have := Int.mul_nonneg (show 0 ≤ y - 1 by omega) (show 0 ≤ q by omega)
      omega
theorem okZ_quo {x y : Int} (hx : okZ x) (h0 : y ≠ 0) : okZ (quoZ x y) := by
  have h1 := quo_rem x y
  have h2 := rem_rng (x := x) h0
  refine okZ.of ?_
  by_cases hp : 0 < y
  · exact quo_pos h1 hp (h2.1 hp).1 (h2.1 hp).2 hx.lt
  · have hn : y < 0 := by omega
    have := hx.lt
    refine quo_pos (x := -x) (y := -y) (r := -(remZ x y)) ?_ (by omega) (by have := h2.2 hn; omega) (by have := h2.2 hn; omega) (by omega)
    have e : -y * quoZ x y = -(y * quoZ x y) := by grind
    omega
theorem okZ_rem {x y : Int} (hy : okZ y) (h0 : y ≠ 0) : okZ (remZ x y) := by
  have h2 := rem_rng (x := x) h0
  have := hy.lt
  refine okZ.of ?_
  by_cases hp : 0 < y
  · have := h2.1 hp; omega
  · have := h2.2 (by omega); omega
theorem full_yes {z : Int} (h : okZ z) : fullZ z = z ∧ fullE z = 0 := ⟨if_pos h, if_pos h⟩
theorem lt40 {x : Int} {n : Nat} (h : (digs (mag x)).length ≤ n) : -pw n < x ∧ x < pw n := by
  have := (digs_len (mag_nn x)).1 h
  have := sgn_cases x
  omega
end Go.Proofs.YtldgkgfkdipdeaaDoor
