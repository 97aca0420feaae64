/-
  Big integers: what a text says (Read); Read and Text turn each other back; the reference's equality; the examples.
-/
import Derived.Test.YtipghibmgfhmpaaGreatDoorWalk10
import Derived.Test.YtipghibmgfhmpaaGreatDoorLfLitD
set_option linter.unusedVariables false
set_option linter.unusedSimpArgs false
set_option maxHeartbeats 8000000
namespace Go.Proofs.YtipghibmgfhmpaaGreatDoor
open Lf Go
attribute [local irreducible] PureOp EffOp Ev RG W Then InBlock Lf.Fin nth App InitE Pick SubE SubF SubG EvL EvD EvP EvR ResL Lf.Lex SubR SubBR RA RAll EvC FinO FinM ResM FinB ResD FinS val pw digs trimL

open Go.RowKit
/-! ### Read -/
def dg (c : UInt8) : Int := c.toNat - 48
def readL : Int → Str → Option Int
  | v, [] => some v
  | v, c :: r => if pw 60 ≤ v * 10 + dg c then none else readL (v * 10 + dg c) r
def DIGS : Str := [48, 49, 50, 51, 52, 53, 54, 55, 56, 57]
def cutF (s : Str) : Str := if [45] <+: s then s.drop 1 else s
def negF (s : Str) : Bool := decide ([45] <+: s)
def badF (t : Str) : Bool := decide (t = []) || decide (((nth t 0).toNat : Int) = 48) || decide (Lib.trimS t DIGS ≠ [])
def readF (s : Str) : Int × Int :=
  if s = [48] then (0, 0) else
  if badF (cutF s) = true then (0, 2) else
  match readL 0 (cutF s) with
  | none => (0, 6)
  | some v => (if negF s = true then -v else v, 0)
theorem readL_drop {v : Int} {t : Str} {k : Nat} (h : k < t.length) : readL v (t.drop k) = if pw 60 ≤ v * 10 + dg (nth t k) then none else readL (v * 10 + dg (nth t k)) (t.drop (k + 1)) := by
  rw [drop_nth h]; rfl
theorem read_ok (s : Str) (hs : s.length ≤ 9223372036854775807) (hd : badF (cutF s) = false → ∀ k, k < (cutF s).length → 0 ≤ dg (nth (cutF s) k) ∧ dg (nth (cutF s) k) ≤ 9) : ACalls Tryz.prog 48 [cS s] (.tup [zB (readF s).1, cI (readF s).2]) := by
  have htl : (cutF s).length ≤ 9223372036854775807 := by
    unfold cutF
    split
    · simp; omega
    · exact hs
  have h1 := cutPrefix_ok s [45] hs
  have h2 := trimS_ok (cutF s) DIGS htl (by decide) (by decide)
  replace h1 : ACalls Tryz.prog 78 [cS s, cS [45]] (.tup [cS (cutF s), cB (negF s)]) := h1
  replace h2 : ACalls Tryz.prog 79 [cS (cutF s), cS [48, 49, 50, 51, 52, 53, 54, 55, 56, 57]] (.pv (cS (Lib.trimS (cutF s) DIGS))) := h2
  by_cases hz : s = [48]
  · have e : readF s = (0, 0) := by rw [readF, if_pos hz]
    rw [e]
    refine ACalls.of_M TYok (qs := [zB 0, cI 0]) [.cell 2 24, .tmp 3] 56 Tryz.func48 (by kernel_rfl) rfl rfl rfl fun G => ?_
    refine W.initA (hw := ?_)
    repeat' (first
      | (exfalso; exact absurd hz ‹¬ s = [48]›)
      | ((first | apply U_ | (apply Ug_; exact rfl; exact rfl) | (apply Ugq_; exact rfl; exact rfl)); (first
    | exact QX.Move TYok
    | exact QX.Asg TYok
    | exact QX.Ld TYok
    | exact QX.Bin TYok
    | exact QX.Pick TYok
    | exact QX.Len TYok
    | exact QX.Idx TYok
    | exact QX.Idxs TYok
    | exact QX.Ext TYok
    | exact QX.Conv TYok
    | exact QX.Build TYok
    | (apply Q_calld (h1); exact EvD.auto)
    | (apply Q_calld (h2); exact EvD.auto)); exact rfl)
      | refine SX.Alloc TYok (h := ?_)
      | refine SX.Store TYok (h := ?_)
      | refine SX.Lit TYok (h := ?_)
      | apply RG.nil
      | apply Lex.nil
      | apply Then.n
      | apply Then.r
      | apply Then.x
      | apply InBlock.n
      | apply InBlock.r
      | apply InBlock.hit
      | (apply InBlock.miss; exact rfl)
      | apply W.seq
      | apply W.region
      | apply W.block
      | apply W.skip
      | apply W.ret
      | apply W.exit
      | (apply S_isnil TYok; exact rfl; exact rfl; exact rfl; exact Ev.auto; intro bn hnil)
      | (apply RG.gT; exact rfl; exact rfl; (first | assumption | decide))
      | (apply RG.gF; exact rfl; exact rfl; (first | assumption | decide | (rw [ne_eq, Bool.not_eq_true]; assumption) | (rw [ne_eq, Bool.not_eq_false]; assumption)); exact rfl)
      | (refine W.condA (ht := fun hb => ?_) (hf := fun hb => ?_) <;> (try simp at hb) <;> (try (exfalso; omega))))
    exact FinM.ret (ResM.cell rfl rfl rfl rfl zeroSubZ (ResM.tmp rfl rfl PSub.rfl' ResM.nil))
  by_cases hbad : badF (cutF s) = true
  · have e : readF s = (0, 2) := by rw [readF, if_neg hz, if_pos hbad]
    rw [e]
    have hno : ¬ ((¬ cutF s = [] ∧ ¬ ((nth (cutF s) 0).toNat : Int) = 48) ∧ Lib.trimS (cutF s) DIGS = []) := fun ⟨⟨a, b⟩, c⟩ => by
      rw [badF, decide_eq_false a, decide_eq_false b, decide_eq_false (fun q => q c)] at hbad; cases hbad
    refine ACalls.of_M TYok (qs := [zB 0, cI 2]) [.cell 2 24, .tmp 3] 56 Tryz.func48 (by kernel_rfl) rfl rfl rfl fun G => ?_
    refine W.initA (hw := ?_)
    repeat' (first
      | (exfalso; exact absurd ‹s = [48]› hz)
      | (exfalso; exact hno (by assumption))
      | ((first | apply U_ | (apply Ug_; exact rfl; exact rfl) | (apply Ugq_; exact rfl; exact rfl)); (first
    | exact QX.Move TYok
    | exact QX.Asg TYok
    | exact QX.Ld TYok
    | exact QX.Bin TYok
    | exact QX.Pick TYok
    | exact QX.Len TYok
    | exact QX.Idx TYok
    | exact QX.Idxs TYok
    | exact QX.Ext TYok
    | exact QX.Conv TYok
    | exact QX.Build TYok
    | (apply Q_calld (h1); exact EvD.auto)
    | (apply Q_calld (h2); exact EvD.auto)
    | (apply Q_indexs TYok; exact Ev.auto; exact Ev.auto; exact rfl; exact rfl; (intro hg; exact strAt (by simp at hg; exact List.length_pos_iff.2 hg)))); exact rfl)
      | refine SX.Alloc TYok (h := ?_)
      | refine SX.Store TYok (h := ?_)
      | refine SX.Lit TYok (h := ?_)
      | apply RG.nil
      | apply Lex.nil
      | apply Then.n
      | apply Then.r
      | apply Then.x
      | apply InBlock.n
      | apply InBlock.r
      | apply InBlock.hit
      | (apply InBlock.miss; exact rfl)
      | apply W.seq
      | apply W.region
      | apply W.block
      | apply W.skip
      | apply W.ret
      | apply W.exit
      | (apply S_isnil TYok; exact rfl; exact rfl; exact rfl; exact Ev.auto; intro bn hnil)
      | (apply RG.gT; exact rfl; exact rfl; (first | assumption | decide))
      | (apply RG.gF; exact rfl; exact rfl; (first | assumption | decide | (rw [ne_eq, Bool.not_eq_true]; assumption) | (rw [ne_eq, Bool.not_eq_false]; assumption)); exact rfl)
      | (refine W.condA (ht := fun hb => ?_) (hf := fun hb => ?_) <;> (try simp at hb) <;> (try (exfalso; omega))))
    exact FinM.ret (ResM.cell rfl rfl rfl rfl zeroSubZ (ResM.tmp rfl rfl PSub.rfl' ResM.nil))
  have hgn : (cutF s = [] ∨ ((nth (cutF s) 0).toNat : Int) = 48) ∨ ¬ Lib.trimS (cutF s) DIGS = [] → False := fun h => hbad (by
    rw [badF]
    rcases h with (h | h) | h
    · rw [decide_eq_true h]; rfl
    · rw [decide_eq_true h, Bool.or_true]; rfl
    · rw [decide_eq_true h, Bool.or_true])
  have hd' := hd (by simpa using hbad)
  have e : readF s = (match readL 0 (cutF s) with | none => (0, 6) | some v => (if negF s = true then -v else v, 0)) := by rw [readF, if_neg hz, if_neg hbad]
  generalize hrl : readL 0 (cutF s) = rl at e
  refine ACalls.of_M TYok (qs := [zB (readF s).1, cI (readF s).2]) [.cell 2 24, .tmp 3] 56 Tryz.func48 (by kernel_rfl) rfl rfl rfl fun G => ?_
  refine W.initA (hw := ?_)
  repeat' (first
    | (exfalso; exact absurd ‹s = [48]› hz)
    | (exfalso; exact hgn (by assumption))
    | ((first | apply U_ | (apply Ug_; exact rfl; exact rfl) | (apply Ugq_; exact rfl; exact rfl)); (first
    | exact QX.Move TYok
    | exact QX.Asg TYok
    | exact QX.Ld TYok
    | exact QX.Bin TYok
    | exact QX.Pick TYok
    | exact QX.Len TYok
    | exact QX.Idx TYok
    | exact QX.Idxs TYok
    | exact QX.Ext TYok
    | exact QX.Conv TYok
    | exact QX.Build TYok
    | (apply Q_calld (h1); exact EvD.auto)
    | (apply Q_calld (h2); exact EvD.auto)
    | (apply Q_indexs TYok; exact Ev.auto; exact Ev.auto; exact rfl; exact rfl; (intro hg; exact strAt (by simp at hg; exact List.length_pos_iff.2 hg)))
    | (apply Q_bytes TYok; exact Ev.auto; exact rfl; exact rfl; exact rfl; exact rfl; exact rfl; exact rfl)); exact rfl)
    | refine SX.Alloc TYok (h := ?_)
    | refine SX.Store TYok (h := ?_)
    | refine SX.Lit TYok (h := ?_)
    | apply RG.nil
    | apply Lex.nil
    | apply Then.n
    | apply Then.r
    | apply Then.x
    | apply InBlock.n
    | apply InBlock.r
    | apply InBlock.hit
    | (apply InBlock.miss; exact rfl)
    | apply W.seq
    | apply W.region
    | apply W.block
    | apply W.skip
    | apply W.ret
    | apply W.exit
    | (apply S_isnil TYok; exact rfl; exact rfl; exact rfl; exact Ev.auto; intro bn hnil)
    | (apply RG.gT; exact rfl; exact rfl; (first | assumption | decide))
    | (apply RG.gF; exact rfl; exact rfl; (first | assumption | decide | (rw [ne_eq, Bool.not_eq_true]; assumption) | (rw [ne_eq, Bool.not_eq_false]; assumption)); exact rfl)
    | (refine W.condA (ht := fun hb => ?_) (hf := fun hb => ?_) <;> (try simp at hb) <;> (try (exfalso; omega))))
  generalize cutF s = t at *
  refine W.weaken (Le.sub (t := 6) (p' := .one (.sl [])) rfl PSub.nil') ?_
  apply W.loopP (σ := Nat × Int) 56 [2, 5, 31, 32] (fun (k, v) => k ≤ t.length ∧ 0 ≤ v ∧ v < pw 60 ∧ readL 0 t = readL v (t.drop k)) (fun (k, v) => [(6, (True, .pv (slI (digs v)))), (33, vI k)]) (fun _ => [(2, ⟨24, 2, [[.int .i64 0, .slnil]]⟩)]) (fun (k, v) => t.length - k) ((0, 0))
  case hp => repeat (first | exact Pick.nil | apply Pick.cons rfl)
  case h0 =>
    refine ⟨⟨by simp, by simp, pw_pos 60, by simp⟩, ?_⟩
    dsimp only
    rw [digs_zero]
    exact Le.auto
  case round =>
    rintro ⟨k, v⟩ ⟨k1, k2, k3, k4⟩
    apply W.norm (by repeat (first | exact App.nil | apply App.cons))
    by_cases hk : k < t.length
    · obtain ⟨d0, d9⟩ := hd' k hk
      rw [readL_drop hk] at k4
      have hp60 : pw 60 < pw 61 := pw_lt (by omega)
      have lv : (digs v).length ≤ 60 := (digs_len k2).2 k3
      have c1 := mul_ok (digs v) [10] (digs_norm v).dig (Dig.cons (by omega) Dig.nil) (by omega) (by simp)
      rw [val_digs k2, val_one] at c1
      have c2 := trim_ok [dg (nth t k)] (by simp)
      rw [trim_digs (Dig.cons (by omega) Dig.nil), val_one] at c2
      have e61 : pw 61 = 1048576 * pw 60 := by rw [pw_succ]
      have l1 : (digs (v * 10)).length ≤ 1000000 := by
        have : (digs (v * 10)).length ≤ 61 := (digs_len (by omega)).2 (by omega)
        omega
      have l2 : (digs (dg (nth t k))).length ≤ 1000000 := by
        have : (digs (dg (nth t k))).length ≤ 1 := (digs_len d0).2 (by rw [pw_succ]; have := pw_pos 0; omega)
        omega
      have c3 := add_ok (digs (v * 10)) (digs (dg (nth t k))) (digs_norm _).dig (digs_norm _).dig l1 l2
      rw [val_digs (by omega), val_digs d0] at c3
      have hlen := digs_len (x := v * 10 + dg (nth t k)) (by omega) (n := 60)
      have hdg : dg (nth t k) = ((nth t k).toNat : Int) - 48 := rfl
      simp only [hdg] at c2 c3 k4 hlen d0 d9
      repeat' (first
        | ((first | apply U_ | (apply Ug_; exact rfl; exact rfl) | (apply Ugq_; exact rfl; exact rfl)); (first
    | (apply Q_litD TYok; (repeat (first | exact EvR.nil | apply EvR.cons Ev.auto)); exact rfl; exact rfl; exact rfl; exact rfl; exact rfl; exact rfl)
    | exact QX.Move TYok
    | exact QX.Asg TYok
    | exact QX.Ld TYok
    | exact QX.Bin TYok
    | exact QX.Pick TYok
    | exact QX.Len TYok
    | exact QX.Idx TYok
    | exact QX.Idxs TYok
    | exact QX.Ext TYok
    | exact QX.Conv TYok
    | exact QX.Build TYok
    | (apply Q_calld (c1); exact EvD.auto)
    | (apply Q_calld (c2); exact EvD.auto)
    | (apply Q_calld (c3); exact EvD.auto)); exact rfl)
        | refine SX.Alloc TYok (h := ?_)
        | refine SX.Store TYok (h := ?_)
        | refine SX.Lit TYok (h := ?_)
        | apply RG.nil
        | apply Lex.nil
        | apply Then.n
        | apply Then.r
        | apply Then.x
        | apply InBlock.n
        | apply InBlock.r
        | apply InBlock.hit
        | (apply InBlock.miss; exact rfl)
        | apply W.seq
        | apply W.region
        | apply W.block
        | apply W.skip
        | apply W.ret
        | apply W.exit
        | (apply S_isnil TYok; exact rfl; exact rfl; exact rfl; exact Ev.auto; intro bn hnil)
        | (apply RG.gT; exact rfl; exact rfl; (first | assumption | decide))
        | (apply RG.gF; exact rfl; exact rfl; (first | assumption | decide | (rw [ne_eq, Bool.not_eq_true]; assumption) | (rw [ne_eq, Bool.not_eq_false]; assumption)); exact rfl)
        | (refine W.condA (ht := fun hb => ?_) (hf := fun hb => ?_) <;> (try simp at hb) <;> (try (exfalso; omega))))
      · have hr : rl = none := by rw [← hrl, k4, if_pos (by omega)]
        have e' : readF s = (0, 6) := by rw [e, hr]
        rw [e']
        exact FinM.ret (ResM.cell rfl rfl rfl rfl zeroSubZ (ResM.tmp rfl rfl PSub.rfl' ResM.nil))
      · refine ⟨(k + 1, v * 10 + (((nth t k).toNat : Int) - 48)), ⟨by omega, by omega, by omega, ?_⟩, ?_, by (try simp only); omega⟩
        · rw [k4, if_neg (by omega)]
        · exact Le.auto
    · have hkt : k = t.length := by omega
      have hr : rl = some v := by rw [← hrl, k4, hkt, List.drop_length]; rfl
      have e' : readF s = (if negF s = true then -v else v, 0) := by rw [e, hr]
      have lv : (digs v).length ≤ 60 := (digs_len k2).2 k3
      have g1 := signed_ok (-1) (digs v) (digs_norm v).dig (by omega) (-v) (.inr (.inl rfl)) (by rw [val_digs k2]; omega)
      have g2 := signed_ok 1 (digs v) (digs_norm v).dig (by omega) v (.inl rfl) (by rw [val_digs k2]; omega)
      rw [e']
      generalize negF s = nb at *
      cases nb
      · rw [if_neg (by decide)]
        repeat' (first
          | ((first | apply U_ | (apply Ug_; exact rfl; exact rfl) | (apply Ugq_; exact rfl; exact rfl)); (first
    | exact QX.Move TYok
    | exact QX.Asg TYok
    | exact QX.Ld TYok
    | exact QX.Bin TYok
    | exact QX.Pick TYok
    | exact QX.Len TYok
    | exact QX.Idx TYok
    | exact QX.Idxs TYok
    | exact QX.Ext TYok
    | exact QX.Conv TYok
    | exact QX.Build TYok
    | (apply Q_calld (g1); exact EvD.auto)
    | (apply Q_calld (g2); exact EvD.auto)); exact rfl)
          | refine SX.Alloc TYok (h := ?_)
          | refine SX.Store TYok (h := ?_)
          | refine SX.Lit TYok (h := ?_)
          | apply RG.nil
          | apply Lex.nil
          | apply Then.n
          | apply Then.r
          | apply Then.x
          | apply InBlock.n
          | apply InBlock.r
          | apply InBlock.hit
          | (apply InBlock.miss; exact rfl)
          | apply W.seq
          | apply W.region
          | apply W.block
          | apply W.skip
          | apply W.ret
          | apply W.exit
          | (apply S_isnil TYok; exact rfl; exact rfl; exact rfl; exact Ev.auto; intro bn hnil)
          | (apply RG.gT; exact rfl; exact rfl; (first | assumption | decide))
          | (apply RG.gF; exact rfl; exact rfl; (first | assumption | decide | (rw [ne_eq, Bool.not_eq_true]; assumption) | (rw [ne_eq, Bool.not_eq_false]; assumption)); exact rfl)
          | (refine W.condA (ht := fun hb => ?_) (hf := fun hb => ?_) <;> (try simp at hb) <;> (try (exfalso; omega))))
        exact FinM.ret ResM.auto
      · rw [if_pos rfl]
        repeat' (first
          | ((first | apply U_ | (apply Ug_; exact rfl; exact rfl) | (apply Ugq_; exact rfl; exact rfl)); (first
    | exact QX.Move TYok
    | exact QX.Asg TYok
    | exact QX.Ld TYok
    | exact QX.Bin TYok
    | exact QX.Pick TYok
    | exact QX.Len TYok
    | exact QX.Idx TYok
    | exact QX.Idxs TYok
    | exact QX.Ext TYok
    | exact QX.Conv TYok
    | exact QX.Build TYok
    | (apply Q_calld (g1); exact EvD.auto)
    | (apply Q_calld (g2); exact EvD.auto)); exact rfl)
          | refine SX.Alloc TYok (h := ?_)
          | refine SX.Store TYok (h := ?_)
          | refine SX.Lit TYok (h := ?_)
          | apply RG.nil
          | apply Lex.nil
          | apply Then.n
          | apply Then.r
          | apply Then.x
          | apply InBlock.n
          | apply InBlock.r
          | apply InBlock.hit
          | (apply InBlock.miss; exact rfl)
          | apply W.seq
          | apply W.region
          | apply W.block
          | apply W.skip
          | apply W.ret
          | apply W.exit
          | (apply S_isnil TYok; exact rfl; exact rfl; exact rfl; exact Ev.auto; intro bn hnil)
          | (apply RG.gT; exact rfl; exact rfl; (first | assumption | decide))
          | (apply RG.gF; exact rfl; exact rfl; (first | assumption | decide | (rw [ne_eq, Bool.not_eq_true]; assumption) | (rw [ne_eq, Bool.not_eq_false]; assumption)); exact rfl)
          | (refine W.condA (ht := fun hb => ?_) (hf := fun hb => ?_) <;> (try simp at hb) <;> (try (exfalso; omega))))
        exact FinM.ret ResM.auto
/-! ### Read: the plain law -/
theorem dropWhile_nil {α : Type} {p : α → Bool} : ∀ {l : List α}, l.dropWhile p = [] → ∀ x ∈ l, p x = true
  | [], _, x, hx => by cases hx
  | y :: r, h, x, hx => by
    rw [List.dropWhile_cons] at h
    split at h
    · rename_i hy
      rcases List.mem_cons.1 hx with rfl | hx
      · exact hy
      · exact dropWhile_nil h x hx
    · cases h
theorem dropWhile_all {α : Type} {p : α → Bool} : ∀ {l : List α}, (∀ x ∈ l, p x = true) → l.dropWhile p = []
  | [], _ => rfl
  | y :: r, h => by rw [List.dropWhile_cons, if_pos (h y (by simp))]; exact dropWhile_all fun x hx => h x (by simp [hx])
theorem trimS_nil {l cs : Str} : Lib.trimS l cs = [] ↔ ∀ x ∈ l, cs.contains x = true := by
  unfold Lib.trimS Lib.trimLeftS Lib.trimRightS
  constructor
  · intro h x hx
    by_cases hc : cs.contains x = true
    · exact hc
    · exfalso
      have h1 := dropWhile_nil h
      have h2 : ∀ l : Str, (∃ y ∈ l, ¬ cs.contains y = true) → ∃ y ∈ l.dropWhile (cs.contains ·), ¬ cs.contains y = true := by
        intro l
        induction l with
        | nil => rintro ⟨y, hy, _⟩; cases hy
        | cons z r ih =>
          rintro ⟨y, hy, hn⟩
          rw [List.dropWhile_cons]
          split
          · rename_i hz
            rcases List.mem_cons.1 hy with rfl | hy
            · exact absurd hz hn
            · exact ih ⟨y, hy, hn⟩
          · exact ⟨y, hy, hn⟩
      obtain ⟨y, hy, hn⟩ := h2 l.reverse ⟨x, by simpa using hx, hc⟩
      exact hn (h1 y (by simpa using hy))
  · intro h
    rw [dropWhile_all (l := l.reverse) fun x hx => h x (by simpa using hx)]
    rfl
theorem dig_dg : ∀ c ∈ DIGS, 0 ≤ dg c ∧ dg c ≤ 9 := by decide
theorem bad_no {t : Str} (h : badF t = false) : ∀ k, k < t.length → 0 ≤ dg (nth t k) ∧ dg (nth t k) ≤ 9 := fun k hk => by
  unfold badF at h
  simp only [Bool.or_eq_false_iff, decide_eq_false_iff_not, ne_eq, Decidable.not_not] at h
  have := (trimS_nil.1 h.2) (nth t k) (nth_mem hk)
  exact dig_dg _ (by simpa using this)
theorem readF_ok (s : Str) (hs : s.length ≤ 9223372036854775807) : ACalls Tryz.prog 48 [cS s] (.tup [zB (readF s).1, cI (readF s).2]) := read_ok s hs bad_no
theorem readL_app : ∀ (a b : Str) (v : Int), readL v (a ++ b) = (readL v a).bind (fun w => readL w b)
  | [], b, v => rfl
  | c :: a, b, v => by
    rw [List.cons_append, readL, readL]
    split
    · rfl
    · exact readL_app a b _
theorem dg_chd : ∀ k : Nat, k < 10 → dg (chd k) = k := by decide
theorem chd_dg (c : UInt8) (h : 0 ≤ dg c ∧ dg c ≤ 9) : chd (dg c).toNat = c := by
  unfold dg at h ⊢
  rw [show (((c.toNat : Int) - 48).toNat) = c.toNat - 48 by omega]
  apply UInt8.toNat_inj.1
  simp only [chd, UInt8.toNat_ofNat']
  omega
open Go.Lib in
theorem read_dec (n : Nat) : (n : Int) < pw 60 → readL 0 (decDigits n) = some (n : Int) := by
  induction n using Nat.strongRecOn with
  | _ n ih =>
    intro h
    by_cases h10 : n < 10
    · rw [decDigits_one h10]
      show readL 0 [chd n] = _
      rw [readL, dg_chd n h10, if_neg (by omega), readL]; simp
    · rw [dec_ge (by omega), readL_app, ih (n / 10) (by omega) (by omega)]
      show readL _ [chd (n % 10)] = _
      rw [readL, dg_chd _ (by omega), if_neg (by omega), readL]
      congr 1; omega
open Go.Lib in
theorem dec_digs (n : Nat) : ∀ c ∈ decDigits n, DIGS.contains c = true := by
  induction n using Nat.strongRecOn with
  | _ n ih =>
    have hc : ∀ k : Nat, k < 10 → DIGS.contains (chd k) = true := by decide
    by_cases h10 : n < 10
    · rw [decDigits_one h10]
      intro c hx
      rw [List.mem_singleton.1 hx]
      exact hc n h10
    · rw [dec_ge (by omega)]
      intro c hx
      rcases List.mem_append.1 hx with hx | hx
      · exact ih (n / 10) (by omega) c hx
      · rw [List.mem_singleton.1 hx]
        exact hc _ (by omega)
open Go.Lib in
theorem dec_head (n : Nat) : 0 < n → 0 < dg (nth (decDigits n) 0) ∧ dg (nth (decDigits n) 0) ≤ 9 := by
  induction n using Nat.strongRecOn with
  | _ n ih =>
    intro h0
    by_cases h10 : n < 10
    · rw [decDigits_one h10]
      have : dg (chd n) = n := dg_chd n h10
      rw [show nth [UInt8.ofNat (48 + n)] 0 = chd n by simp [nth]]
      omega
    · rw [dec_ge (by omega)]
      have e : nth (decDigits (n / 10) ++ [chd (n % 10)]) 0 = nth (decDigits (n / 10)) 0 := by
        have := dec_pos (n / 10)
        unfold nth
        rw [List.getD_eq_getElem?_getD, List.getElem?_append_left this, ← List.getD_eq_getElem?_getD]
      rw [e]
      exact ih (n / 10) (by omega) (by omega)
theorem bad_dec {u : Int} (h : 0 < u) : badF (decZ u) = false := by
  have h1 := dec_pos u.toNat
  have h2 := dec_head u.toNat (by omega)
  unfold badF
  have e1 : ¬ decZ u = [] := fun e => by unfold decZ at e; rw [e] at h1; simp at h1
  have e2 : ¬ ((nth (decZ u) 0).toNat : Int) = 48 := by unfold decZ; unfold dg at h2; omega
  have e3 : Lib.trimS (decZ u) DIGS = [] := trimS_nil.2 (dec_digs _)
  rw [decide_eq_false e1, decide_eq_false e2, decide_eq_false (fun q => q e3)]; rfl
theorem dec_no45 {u : Int} (r : Str) : ¬ decZ u = 45 :: r := fun e => by
  have := dec_digs u.toNat 45 (by unfold decZ at e; rw [e]; simp)
  revert this; decide
theorem cut_dec (u : Int) : cutF (decZ u) = decZ u ∧ negF (decZ u) = false := by
  have h : ¬ [45] <+: decZ u := fun ⟨r, hr⟩ => dec_no45 r hr.symm
  exact ⟨if_neg h, decide_eq_false h⟩
theorem cut_neg (t : Str) : cutF (45 :: t) = t ∧ negF (45 :: t) = true := by
  have h : [45] <+: (45 :: t) := ⟨t, rfl⟩
  exact ⟨by rw [cutF, if_pos h]; rfl, decide_eq_true h⟩
theorem read_txt {x : Int} (hx : okZ x) : readF (txtZ x) = (x, 0) := by
  unfold okZ at hx
  by_cases h : x < 0
  · rw [txtZ, if_pos h, readF, if_neg (fun e => by have := (List.cons.inj e).1; revert this; decide), (cut_neg _).1, (cut_neg _).2, bad_dec (by omega), if_neg (by decide)]
    have := read_dec (-x).toNat (by unfold mag at hx; omega)
    unfold decZ
    rw [this]
    simp only [if_true]
    congr 1; omega
  · rw [txtZ, if_neg h]
    by_cases h0 : x = 0
    · subst h0
      rw [show decZ 0 = [48] from Go.Lib.decDigits_one (i := 0) (by decide), readF, if_pos rfl]
    · have hne : ¬ decZ x = [48] := fun e => by
        have h2 := (dec_head x.toNat (by omega)).1
        unfold decZ at e; rw [e, show nth [(48 : UInt8)] 0 = 48 by simp [nth]] at h2; revert h2; decide
      rw [readF, if_neg hne, (cut_dec x).1, (cut_dec x).2, bad_dec (by omega), if_neg (by decide)]
      have := read_dec x.toNat (by unfold mag at hx; omega)
      unfold decZ
      rw [this]
      simp only [Bool.false_eq_true, if_false]
      congr 1; omega
/-! ### what Read takes is what Text gives -/
theorem decZ_snoc {v : Int} {c : UInt8} (h : 0 < v) (hc : 0 ≤ dg c ∧ dg c ≤ 9) : decZ (v * 10 + dg c) = decZ v ++ [c] := by
  unfold decZ
  rw [dec_ge (u := (v * 10 + dg c).toNat) (by omega), show (v * 10 + dg c).toNat / 10 = v.toNat by omega, show (v * 10 + dg c).toNat % 10 = (dg c).toNat by omega, chd_dg c hc]
theorem readL_dec : ∀ (t : Str) (v w : Int), 0 < v → (∀ c ∈ t, 0 ≤ dg c ∧ dg c ≤ 9) → readL v t = some w → decZ w = decZ v ++ t ∧ 0 < w ∧ (v < pw 60 → w < pw 60)
  | [], v, w, h, _, hr => by
    rw [readL] at hr
    cases hr
    exact ⟨by simp, h, id⟩
  | c :: r, v, w, h, hd, hr => by
    have hc := hd c (by simp)
    rw [readL] at hr
    split at hr
    · cases hr
    · rename_i hlt
      obtain ⟨h1, h2, h3⟩ := readL_dec r (v * 10 + dg c) w (by omega) (fun x hx => hd x (by simp [hx])) hr
      rw [decZ_snoc h hc] at h1
      exact ⟨by rw [h1, List.append_assoc]; rfl, h2, fun _ => h3 (by omega)⟩
theorem digs_of_bad {t : Str} (h : badF t = false) : (∀ c ∈ t, 0 ≤ dg c ∧ dg c ≤ 9) ∧ ∃ c r, t = c :: r ∧ 0 < dg c := by
  have hb := h
  unfold badF at h
  simp only [Bool.or_eq_false_iff, decide_eq_false_iff_not, ne_eq, Decidable.not_not] at h
  have hall : ∀ c ∈ t, 0 ≤ dg c ∧ dg c ≤ 9 := fun c hc => dig_dg _ (by simpa using trimS_nil.1 h.2 c hc)
  refine ⟨hall, ?_⟩
  cases t with
  | nil => exact absurd rfl h.1.1
  | cons c r =>
    refine ⟨c, r, rfl, ?_⟩
    have h1 := hall c (by simp)
    have h2 : ¬ ((c.toNat : Int) = 48) := by
      have := h.1.2
      rwa [show nth (c :: r) 0 = c by simp [nth]] at this
    unfold dg at h1 ⊢; omega
theorem readL_digs {t : Str} {w : Int} (h : badF t = false) (hr : readL 0 t = some w) : decZ w = t ∧ 0 < w ∧ w < pw 60 := by
  obtain ⟨hall, c, r, rfl, hc⟩ := digs_of_bad h
  have h9 := (hall c (by simp)).2
  rw [readL] at hr
  split at hr
  · cases hr
  · rename_i hlt
    obtain ⟨h1, h2, h3⟩ := readL_dec r (0 * 10 + dg c) w (by omega) (fun x hx => hall x (by simp [hx])) hr
    refine ⟨?_, h2, h3 (by omega)⟩
    rw [h1, show (0 : Int) * 10 + dg c = dg c by omega]
    have : decZ (dg c) = [c] := by
      unfold decZ
      rw [Go.Lib.decDigits_one (by omega)]
      exact congrArg (fun x => [x]) (chd_dg c ⟨by omega, h9⟩)
    rw [this]; rfl
/-- what Read says of any text: 0 and the number whose text it is, or 2 or 6 and zero -/
theorem readF_cases (s : Str) : ((readF s).2 = 0 ∧ okZ (readF s).1 ∧ txtZ (readF s).1 = s) ∨ (((readF s).2 = 2 ∨ (readF s).2 = 6) ∧ (readF s).1 = 0) := by
  unfold readF
  by_cases h0 : s = [48]
  · rw [if_pos h0]
    refine .inl ⟨rfl, by unfold okZ; rw [show mag 0 = 0 from rfl]; exact pw_pos 60, ?_⟩
    rw [h0]; exact Go.Lib.decDigits_one (i := 0) (by decide)
  · rw [if_neg h0]
    by_cases hb : badF (cutF s) = true
    · rw [if_pos hb]; exact .inr ⟨.inl rfl, rfl⟩
    · rw [if_neg hb]
      cases hr : readL 0 (cutF s) with
      | none => exact .inr ⟨.inr rfl, rfl⟩
      | some v =>
        obtain ⟨h1, h2, h3⟩ := readL_digs (by simpa using hb) hr
        refine .inl ⟨rfl, ?_, ?_⟩
        · unfold okZ mag
          dsimp only
          split <;> split <;> omega
        · dsimp only
          by_cases hn : [45] <+: s
          · obtain ⟨r, rfl⟩ := hn
            have hc := cut_neg r
            rw [show [45] ++ r = 45 :: r from rfl] at *
            rw [hc.1] at h1
            rw [hc.2, if_pos rfl, txtZ, if_pos (by omega), Int.neg_neg, h1]
          · have e1 : negF s = false := decide_eq_false hn
            have e2 : cutF s = s := if_neg hn
            rw [e2] at h1
            rw [e1, if_neg (by decide), txtZ, if_neg (by omega), h1]
/-! ### what the laws share -/
theorem rsameB_ok (s s' : Int) (a b : List Int) (hl : a.length ≤ 1000000) (hl' : b.length ≤ 1000000) : ACalls Tryz.prog 85 [aB s a, aB s' b] (.pv (cB (decide (s = s') && decide (a = b)))) := by
  by_cases h0 : s = s' ∧ a.length = b.length
  case neg =>
    have e : (decide (s = s') && decide (a = b)) = false := by
      rw [Bool.and_eq_false_iff, decide_eq_false_iff_not, decide_eq_false_iff_not]
      by_cases hs : s = s'
      · exact .inr fun e => h0 ⟨hs, by rw [e]⟩
      · exact .inl hs
    rw [e]
    refine ACalls.of_W (qs := [cB false]) [4] 38 Tryz.func85 (by kernel_rfl) rfl rfl rfl fun G => ?_
    refine W.initA (hw := ?_)
    repeat' (first
      | (exfalso; omega)
      | ((first | apply U_ | (apply Ug_; exact rfl; exact rfl) | (apply Ugq_; exact rfl; exact rfl) | apply Lex.u | (apply Lex.g; exact rfl; exact rfl) | (apply Lex.gq; exact rfl; exact rfl)); (first
    | exact QX.Move TYok
    | exact QX.Asg TYok
    | exact QX.Fld TYok
    | exact QX.Ld TYok
    | exact QX.Bin TYok
    | exact QX.Pick TYok
    | exact QX.Len TYok
    | exact QX.Idx TYok); exact rfl)
      | refine SX.Box TYok (h := ?_)
      | apply RG.nil
      | apply Lex.nil
      | apply Then.n
      | apply Then.r
      | apply Then.x
      | apply InBlock.n
      | apply InBlock.r
      | apply InBlock.hit
      | (apply InBlock.miss; exact rfl)
      | apply W.seq
      | apply W.region
      | apply W.block
      | apply W.skip
      | apply W.ret
      | apply W.exit
      | (apply RG.gT; exact rfl; exact rfl; (first | assumption | decide))
      | (apply RG.gF; exact rfl; exact rfl; (first | assumption | decide | (rw [ne_eq, Bool.not_eq_true]; assumption) | (rw [ne_eq, Bool.not_eq_false]; assumption)); exact rfl)
      | (apply W.draw2 (id := 6) [0, 1, 0, 7, 15, 0, 32, 0, 224, 480, 1023] [[2], [27], [5], [28, 29], [30], [3], [32], [5], [33, 34], [35], [31, 36]] 11 [(27, 4), (28, 134217728), (29, 32), (30, 805306368), (31, 1073741824), (32, 8), (33, 4294967296), (34, 32), (35, 25769803776), (36, 34359738368), (37, 70866960384)] mixed (by kernel_rfl) rfl rfl)
      | (refine W.condA (ht := fun hb => ?_) (hf := fun hb => ?_) <;> (try simp at hb) <;> (try (exfalso; omega))))
    exact Fin.ret ResL.auto
  obtain ⟨rfl, hab⟩ := h0
  rw [decide_eq_true rfl, Bool.true_and]
  refine ACalls.of_W (qs := [cB (decide (a = b))]) [4] 38 Tryz.func85 (by kernel_rfl) rfl rfl rfl fun G => ?_
  refine W.initA (hw := ?_)
  repeat' (first
    | ((first | apply U_ | (apply Ug_; exact rfl; exact rfl) | (apply Ugq_; exact rfl; exact rfl) | apply Lex.u | (apply Lex.g; exact rfl; exact rfl) | (apply Lex.gq; exact rfl; exact rfl)); (first
    | exact QX.Move TYok
    | exact QX.Asg TYok
    | exact QX.Fld TYok
    | exact QX.Ld TYok
    | exact QX.Bin TYok
    | exact QX.Pick TYok
    | exact QX.Len TYok
    | exact QX.Idx TYok); exact rfl)
    | refine SX.Box TYok (h := ?_)
    | apply RG.nil
    | apply Lex.nil
    | apply Then.n
    | apply Then.r
    | apply Then.x
    | apply InBlock.n
    | apply InBlock.r
    | apply InBlock.hit
    | (apply InBlock.miss; exact rfl)
    | apply W.seq
    | apply W.region
    | apply W.block
    | apply W.skip
    | apply W.ret
    | apply W.exit
    | (apply RG.gT; exact rfl; exact rfl; (first | assumption | decide))
    | (apply RG.gF; exact rfl; exact rfl; (first | assumption | decide | (rw [ne_eq, Bool.not_eq_true]; assumption) | (rw [ne_eq, Bool.not_eq_false]; assumption)); exact rfl)
    | (apply W.draw2 (id := 6) [0, 1, 0, 7, 15, 0, 32, 0, 224, 480, 1023] [[2], [27], [5], [28, 29], [30], [3], [32], [5], [33, 34], [35], [31, 36]] 11 [(27, 4), (28, 134217728), (29, 32), (30, 805306368), (31, 1073741824), (32, 8), (33, 4294967296), (34, 32), (35, 25769803776), (36, 34359738368), (37, 70866960384)] mixed (by kernel_rfl) rfl rfl)
    | (refine W.condA (ht := fun hb => ?_) (hf := fun hb => ?_) <;> (try simp at hb) <;> (try (exfalso; omega))))
  apply W.loopP (σ := Nat) 38 [2, 3] (fun k => k ≤ a.length ∧ a.take k = b.take k) (fun k => [(5, vI k)]) (fun _ => [(2, ⟨24, 2, [[.int .i64 s, .sl (a.map Lf.encI)]]⟩), (3, ⟨24, 2, [[.int .i64 s, .sl (b.map Lf.encI)]]⟩)]) (fun k => a.length - k) (0)
  case hp => repeat (first | exact Pick.nil | apply Pick.cons rfl)
  case h0 =>
    refine ⟨by simp, ?_⟩
    exact Le.auto
  case round =>
    rintro k ⟨g1, g2⟩
    apply W.norm (by repeat (first | exact App.nil | apply App.cons))
    repeat' (first
      | ((first | apply U_ | (apply Ug_; exact rfl; exact rfl) | (apply Ugq_; exact rfl; exact rfl) | apply Lex.u | (apply Lex.g; exact rfl; exact rfl) | (apply Lex.gq; exact rfl; exact rfl)); (first
    | exact QX.Move TYok
    | exact QX.Asg TYok
    | exact QX.Fld TYok
    | exact QX.Ld TYok
    | exact QX.Bin TYok
    | exact QX.Pick TYok
    | exact QX.Len TYok
    | exact QX.Idx TYok); exact rfl)
      | refine SX.Box TYok (h := ?_)
      | apply RG.nil
      | apply Lex.nil
      | apply Then.n
      | apply Then.r
      | apply Then.x
      | apply InBlock.n
      | apply InBlock.r
      | apply InBlock.hit
      | (apply InBlock.miss; exact rfl)
      | apply W.seq
      | apply W.region
      | apply W.block
      | apply W.skip
      | apply W.ret
      | apply W.exit
      | (apply RG.gT; exact rfl; exact rfl; (first | assumption | decide))
      | (apply RG.gF; exact rfl; exact rfl; (first | assumption | decide | (rw [ne_eq, Bool.not_eq_true]; assumption) | (rw [ne_eq, Bool.not_eq_false]; assumption)); exact rfl)
      | (apply W.draw2 (id := 6) [0, 1, 0, 7, 15, 0, 32, 0, 224, 480, 1023] [[2], [27], [5], [28, 29], [30], [3], [32], [5], [33, 34], [35], [31, 36]] 11 [(27, 4), (28, 134217728), (29, 32), (30, 805306368), (31, 1073741824), (32, 8), (33, 4294967296), (34, 32), (35, 25769803776), (36, 34359738368), (37, 70866960384)] mixed (by kernel_rfl) rfl rfl)
      | (refine W.condA (ht := fun hb => ?_) (hf := fun hb => ?_) <;> (try simp at hb) <;> (try (exfalso; omega))))
    · rw [decide_eq_false (fun e => by subst e; omega)]
      exact Fin.ret ResL.auto
    · refine ⟨k + 1, ⟨by omega, ?_⟩, ?_, by omega⟩
      · rw [take_nth (by omega), take_nth (by omega), g2, hb]
      · exact Le.auto
    · obtain rfl : k = a.length := by omega
      rw [List.take_length, hab, List.take_length] at g2
      rw [decide_eq_true g2]
      exact Fin.ret ResL.auto
theorem rsameZ_ok (x y : Int) (hx : okZ x) (hy : okZ y) : ACalls Tryz.prog 85 [zB x, zB y] (.pv (cB (decide (x = y)))) := by
  have h := rsameB_ok (sgn x) (sgn y) (digs (mag x)) (digs (mag y)) (by have := num_len hx; omega) (by have := num_len hy; omega)
  rw [show (decide (sgn x = sgn y) && decide (digs (mag x) = digs (mag y))) = decide (x = y) by
    rw [Bool.eq_iff_iff, Bool.and_eq_true, decide_eq_true_iff, decide_eq_true_iff, decide_eq_true_iff]
    exact ⟨fun h => num_inj h.1 h.2, fun h => by rw [h]; exact ⟨rfl, rfl⟩⟩] at h
  exact h
theorem ok_of {x : Int} (h : mag x < pw 10) : okZ x := by unfold okZ; have := pw_lt (show 10 < 60 by omega); omega
theorem rightL_ok (s : Int) (l : List Int) (hl : l.length ≤ 9223372036854775807) : ACalls Tryz.prog 50 [aB s l] (.pv (cB (rightB s l))) := by
  refine ACalls.of_W (qs := [cB (rightB s l)]) [2] 49 Tryz.func50 (by kernel_rfl) rfl rfl rfl fun G => ?_
  refine W.initA (hw := ?_)
  repeat' (first
    | ((first | apply U_ | (apply Ug_; exact rfl; exact rfl) | (apply Ugq_; exact rfl; exact rfl)); (first
    | exact QX.Move TYok
    | exact QX.Asg TYok
    | exact QX.Fld TYok
    | exact QX.Ld TYok
    | exact QX.Bin TYok
    | exact QX.Pick TYok
    | exact QX.Len TYok
    | exact QX.Idx TYok); exact rfl)
    | refine SX.Box TYok (h := ?_)
    | apply RG.nil
    | apply Lex.nil
    | apply Then.n
    | apply Then.r
    | apply Then.x
    | apply InBlock.n
    | apply InBlock.r
    | apply InBlock.hit
    | (apply InBlock.miss; exact rfl)
    | apply W.seq
    | apply W.region
    | apply W.block
    | apply W.skip
    | apply W.ret
    | apply W.exit
    | (apply S_isnil TYok; exact rfl; exact rfl; exact rfl; exact Ev.auto; intro bn hnil)
    | (apply RG.gT; exact rfl; exact rfl; (first | assumption | decide))
    | (apply RG.gF; exact rfl; exact rfl; (first | assumption | decide | (rw [ne_eq, Bool.not_eq_true]; assumption) | (rw [ne_eq, Bool.not_eq_false]; assumption)); exact rfl)
    | (refine W.condA (ht := fun hb => ?_) (hf := fun hb => ?_) <;> (try simp at hb) <;> (try (exfalso; omega))))
  apply W.loopP (σ := Nat) 49 [1, 3, 10, 11] (fun k => k ≤ l.length ∧ l.all digB = (l.drop k).all digB) (fun k => [(12, vI k)]) (fun _ => [(1, ⟨24, 2, [[.int .i64 s, .sl (l.map Lf.encI)]]⟩)]) (fun k => l.length - k) (0)
  case hp => repeat (first | exact Pick.nil | apply Pick.cons rfl)
  case h0 =>
    refine ⟨by simp, ?_⟩
    exact Le.auto
  case round =>
    rintro k ⟨g1, g2⟩
    apply W.norm (by repeat (first | exact App.nil | apply App.cons))
    by_cases hk : k < l.length
    · have e : l.all digB = (digB (nth l k) && (l.drop (k + 1)).all digB) := by rw [g2, drop_nth hk, List.all_cons]
      repeat' (first
        | ((first | apply U_ | (apply Ug_; exact rfl; exact rfl) | (apply Ugq_; exact rfl; exact rfl)); (first
    | exact QX.Move TYok
    | exact QX.Asg TYok
    | exact QX.Fld TYok
    | exact QX.Ld TYok
    | exact QX.Bin TYok
    | exact QX.Pick TYok
    | exact QX.Len TYok
    | exact QX.Idx TYok); exact rfl)
        | refine SX.Box TYok (h := ?_)
        | apply RG.nil
        | apply Lex.nil
        | apply Then.n
        | apply Then.r
        | apply Then.x
        | apply InBlock.n
        | apply InBlock.r
        | apply InBlock.hit
        | (apply InBlock.miss; exact rfl)
        | apply W.seq
        | apply W.region
        | apply W.block
        | apply W.skip
        | apply W.ret
        | apply W.exit
        | (apply S_isnil TYok; exact rfl; exact rfl; exact rfl; exact Ev.auto; intro bn hnil)
        | (apply RG.gT; exact rfl; exact rfl; (first | assumption | decide))
        | (apply RG.gF; exact rfl; exact rfl; (first | assumption | decide | (rw [ne_eq, Bool.not_eq_true]; assumption) | (rw [ne_eq, Bool.not_eq_false]; assumption)); exact rfl)
        | (refine W.condA (ht := fun hb => ?_) (hf := fun hb => ?_) <;> (try simp at hb) <;> (try (exfalso; omega))))
      · have e2 : rightB s l = false := by
          rw [rightB, e, show digB (nth l k) = false by
            simp only [digB, Bool.and_eq_false_iff, decide_eq_false_iff_not]; omega]; rfl
        rw [e2]
        exact Fin.ret ResL.auto
      · refine ⟨k + 1, ⟨by omega, ?_⟩, ?_, by omega⟩
        · rw [e, show digB (nth l k) = true by
            simp only [digB, Bool.and_eq_true, decide_eq_true_iff]; omega]; rfl
        · exact Le.auto
    · obtain rfl : k = l.length := by omega
      have e : l.all digB = true := by rw [g2, List.drop_length]; rfl
      by_cases h0 : l.length = 0
      · have e2 : rightB s l = decide (s = 0) := by rw [rightB, e, if_pos h0]; rfl
        repeat' (first
          | ((first | apply U_ | (apply Ug_; exact rfl; exact rfl) | (apply Ugq_; exact rfl; exact rfl)); (first
    | exact QX.Move TYok
    | exact QX.Asg TYok
    | exact QX.Fld TYok
    | exact QX.Ld TYok
    | exact QX.Bin TYok
    | exact QX.Pick TYok
    | exact QX.Len TYok
    | exact QX.Idx TYok); exact rfl)
          | refine SX.Box TYok (h := ?_)
          | apply RG.nil
          | apply Lex.nil
          | apply Then.n
          | apply Then.r
          | apply Then.x
          | apply InBlock.n
          | apply InBlock.r
          | apply InBlock.hit
          | (apply InBlock.miss; exact rfl)
          | apply W.seq
          | apply W.region
          | apply W.block
          | apply W.skip
          | apply W.ret
          | apply W.exit
          | (apply S_isnil TYok; exact rfl; exact rfl; exact rfl; exact Ev.auto; intro bn hnil)
          | (apply RG.gT; exact rfl; exact rfl; (first | assumption | decide))
          | (apply RG.gF; exact rfl; exact rfl; (first | assumption | decide | (rw [ne_eq, Bool.not_eq_true]; assumption) | (rw [ne_eq, Bool.not_eq_false]; assumption)); exact rfl)
          | (refine W.condA (ht := fun hb => ?_) (hf := fun hb => ?_) <;> (try simp at hb) <;> (try (exfalso; omega))))
        · rw [e2]
          exact Fin.ret ResL.auto
        · exact absurd (List.length_eq_zero_iff.1 h0) hb
      · have e2 : rightB s l = ((decide (s = 1) || decide (s = -1)) && decide ((l.length : Int) ≤ 60) && !decide (nth l ((l.length : Int) - 1).toNat = 0)) := by
          rw [rightB, e, if_neg h0, show ((l.length : Int) - 1).toNat = l.length - 1 by omega, show decide (l.length ≤ 60) = decide ((l.length : Int) ≤ 60) from decide_eq_decide.2 (by omega)]; rfl
        repeat' (first
          | ((first | apply U_ | (apply Ug_; exact rfl; exact rfl) | (apply Ugq_; exact rfl; exact rfl)); (first
    | exact QX.Move TYok
    | exact QX.Asg TYok
    | exact QX.Fld TYok
    | exact QX.Ld TYok
    | exact QX.Bin TYok
    | exact QX.Pick TYok
    | exact QX.Len TYok
    | exact QX.Idx TYok); exact rfl)
          | refine SX.Box TYok (h := ?_)
          | apply RG.nil
          | apply Lex.nil
          | apply Then.n
          | apply Then.r
          | apply Then.x
          | apply InBlock.n
          | apply InBlock.r
          | apply InBlock.hit
          | (apply InBlock.miss; exact rfl)
          | apply W.seq
          | apply W.region
          | apply W.block
          | apply W.skip
          | apply W.ret
          | apply W.exit
          | (apply S_isnil TYok; exact rfl; exact rfl; exact rfl; exact Ev.auto; intro bn hnil)
          | (apply RG.gT; exact rfl; exact rfl; (first | assumption | decide))
          | (apply RG.gF; exact rfl; exact rfl; (first | assumption | decide | (rw [ne_eq, Bool.not_eq_true]; assumption) | (rw [ne_eq, Bool.not_eq_false]; assumption)); exact rfl)
          | (refine W.condA (ht := fun hb => ?_) (hf := fun hb => ?_) <;> (try simp at hb) <;> (try (exfalso; omega))))
        · exact absurd (by rw [hb]; rfl) h0
        · rw [e2]
          exact Fin.ret ResL.auto
theorem quo_pos {x y q r P : Int} (h : x = y * q + r) (hy : 0 < y) (h0 : 0 ≤ r) (h1 : r < y) (hx : -P < x ∧ x < P) : -P < q ∧ q < P := by
  constructor
  · by_cases hc : -P < q
    · exact hc
    · exfalso
      have e : (y - 1) * (-(q + 1)) = -(y * q) - y + q + 1 := by grind
      have := Int.mul_nonneg (show 0 ≤ y - 1 by omega) (show 0 ≤ -(q + 1) by omega)
      omega
  · by_cases hc : q < P
    · exact hc
    · exfalso
      have e : (y - 1) * q = y * q - q := by grind
      have := Int.mul_nonneg (show 0 ≤ y - 1 by omega) (show 0 ≤ q by omega)
      omega
theorem okZ_quo {x y : Int} (hx : okZ x) (h0 : y ≠ 0) : okZ (quoZ x y) := by
  have h1 := quo_rem x y
  have h2 := rem_rng (x := x) h0
  refine okZ.of ?_
  by_cases hp : 0 < y
  · exact quo_pos h1 hp (h2.1 hp).1 (h2.1 hp).2 hx.lt
  · have hn : y < 0 := by omega
    have := hx.lt
    refine quo_pos (x := -x) (y := -y) (r := -(remZ x y)) ?_ (by omega) (by have := h2.2 hn; omega) (by have := h2.2 hn; omega) (by omega)
    have e : -y * quoZ x y = -(y * quoZ x y) := by grind
    omega
theorem okZ_rem {x y : Int} (hy : okZ y) (h0 : y ≠ 0) : okZ (remZ x y) := by
  have h2 := rem_rng (x := x) h0
  have := hy.lt
  refine okZ.of ?_
  by_cases hp : 0 < y
  · have := h2.1 hp; omega
  · have := h2.2 (by omega); omega
theorem full_yes {z : Int} (h : okZ z) : fullZ z = z ∧ fullE z = 0 := ⟨if_pos h, if_pos h⟩
theorem lt40 {x : Int} {n : Nat} (h : (digs (mag x)).length ≤ n) : -pw n < x ∧ x < pw n := by
  have := (digs_len (mag_nn x)).1 h
  have := sgn_cases x
  omega
end Go.Proofs.YtipghibmgfhmpaaGreatDoor
