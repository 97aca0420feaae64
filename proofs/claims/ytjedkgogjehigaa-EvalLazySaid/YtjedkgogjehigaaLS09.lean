/-
  Part 9 of what the proof rests on.
-/
import Derived.Test.YtjedkgogjehigaaLS08
import Derived.Test.YtjedkgogjehigaaLS05
import Derived.Test.YtjedkgogjehigaaLS07
section
set_option linter.unusedVariables false
set_option linter.unusedSimpArgs false
set_option maxHeartbeats 8000000
set_option linter.unusedSectionVars false
namespace Go.Proofs.Ytjedkgogjehigaa
open Lf Go
attribute [local irreducible] PureOp EffOp Ev RG W Then InBlock Lf.Fin nth App InitE Pick SubE EvL EvD EvP EvR ResL Lf.Lex SubR SubBR EvC FinO FinM ResM ResD FinS val pw digs trimL
abbrev Str := List UInt8
def encS (s : Str) : List Cell := [.str s]
abbrev slS (l : List Str) : PV := .one (.sl (l.map encS))
abbrev cS (s : Str) : PV := .one (.str s)
abbrev cU8 (c : UInt8) : PV := .one (.int .u8 c.toNat)
def letterF (c : UInt8) : Bool := decide ((c.toNat : Int) ≥ 97) && decide ((c.toNat : Int) ≤ 122)
def digitF (c : UInt8) : Bool := decide ((c.toNat : Int) ≥ 48) && decide ((c.toNat : Int) ≤ 57)
theorem letter_ok (c : UInt8) : ACalls Try.prog 94 [cU8 c] (.pv (cB (letterF c))) := by
  refine ACalls.of_W (qs := [_]) [2] 9 Try.func94 (by kernel_rfl) rfl rfl rfl fun G => ?_
  refine W.initA (hw := ?_)
  repeat' (first | ((first | apply U_ | (apply Ug_; exact rfl; exact rfl) | (apply Ugq_; exact rfl; exact rfl)); (first | exact QX.B TYok); exact rfl) | refine SC ?_ | refine SG ?_ | (refine W.condA (ht := fun hb => ?_) (hf := fun hb => ?_) <;> (try simp at hb) <;> (try (exfalso; omega))))
  exact Fin.ret ResL.auto
theorem digit_ok (c : UInt8) : ACalls Try.prog 97 [cU8 c] (.pv (cB (digitF c))) := by
  refine ACalls.of_W (qs := [_]) [2] 9 Try.func97 (by kernel_rfl) rfl rfl rfl fun G => ?_
  refine W.initA (hw := ?_)
  repeat' (first | ((first | apply U_ | (apply Ug_; exact rfl; exact rfl) | (apply Ugq_; exact rfl; exact rfl)); (first | exact QX.B TYok); exact rfl) | refine SC ?_ | refine SG ?_ | (refine W.condA (ht := fun hb => ?_) (hf := fun hb => ?_) <;> (try simp at hb) <;> (try (exfalso; omega))))
  exact Fin.ret ResL.auto
def alnum (c : UInt8) : Bool := letterF c || digitF c
theorem alnum_ok (c : UInt8) : ACalls Try.prog 96 [cU8 c] (.pv (cB (alnum c))) := by
  refine ACalls.of_W (qs := [_]) [2] 9 Try.func96 (by kernel_rfl) rfl rfl rfl fun G => ?_
  refine W.initA (hw := ?_)
  repeat' (first | ((first | apply U_ | (apply Ug_; exact rfl; exact rfl) | (apply Ugq_; exact rfl; exact rfl)); (first | exact QX.B TYok | exact QCl (letter_ok c) | exact QCl (digit_ok c)); exact rfl) | refine SC ?_ | refine SG ?_ | (refine W.condA (ht := fun hb => ?_) (hf := fun hb => ?_) <;> (try simp at hb) <;> (try (exfalso; omega))))
  exact Fin.ret ResL.auto
def RES : List Str := [
  [97, 99, 116, 117, 97, 108],
  [97, 100, 106, 117, 115, 116],
  [97, 110, 100],
  [97, 116],
  [98, 101, 102, 111, 114, 101],
  [99, 97, 108, 108],
  [99, 97, 112],
  [99, 111, 105, 110, 115],
  [99, 111, 117, 110, 116],
  [99, 111, 117, 112, 111, 110],
  [99, 111, 118, 101, 110, 97, 110, 116],
  [99, 114, 111, 115, 115],
  [100, 97, 121, 115],
  [101, 108, 115, 101],
  [101, 118, 101, 114],
  [101, 118, 101, 114, 121],
  [102, 97, 99, 101],
  [102, 97, 99, 116],
  [102, 97, 108, 115, 101],
  [102, 97, 115, 116],
  [102, 97, 118, 111, 117, 114],
  [102, 105, 120, 101, 100],
  [102, 114, 111, 109],
  [103, 114, 97, 99, 101],
  [105, 102],
  [105, 115, 115, 117, 101],
  [108, 101, 116],
  [108, 111, 110, 103],
  [109, 97, 106, 111, 114, 105, 116, 121],
  [109, 97, 120],
  [109, 105, 108, 108, 101],
  [109, 105, 110],
  [109, 111, 100, 105, 102, 105, 101, 100],
  [109, 111, 110, 116, 104, 115],
  [109, 117, 115, 116],
  [110, 101, 120, 116],
  [110, 111, 110, 101],
  [110, 111, 116],
  [110, 111, 116, 105, 99, 101],
  [111, 102],
  [111, 114],
  [114, 97, 110, 107],
  [114, 97, 116, 101],
  [114, 101, 99, 111, 114, 100],
  [115, 105, 110, 107],
  [115, 111, 111, 110],
  [116, 104, 101, 110],
  [116, 104, 105, 114, 116, 121],
  [116, 111],
  [116, 114, 117, 101]]
theorem reserved_ok : ACalls Try.prog 77 [] (.pv (slS RES)) := by
  refine ACalls.of_W (qs := [slS RES]) [0] 2 Try.func77 (by kernel_rfl) rfl rfl rfl fun G => ?_
  refine W.initA (hw := ?_)
  repeat' (first | ((first | apply U_); (first | exact QX.B TYok); exact rfl) | refine SX.Lit TYok (h := ?_) | refine SC ?_ | (refine W.condA (ht := fun hb => ?_) (hf := fun hb => ?_) <;> (try simp at hb) <;> (try (exfalso; omega))))
  exact Fin.ret (ResL.cons rfl rfl (PSub.of_eq rfl) ResL.nil)
theorem tw_at {s : Str} {p : UInt8 → Bool} : ∀ {k : Nat}, (∀ j, j < k → p (nth s j) = true) → k ≤ s.length → (k = s.length ∨ p (nth s k) = false) → (s.takeWhile p).length = k := by
  induction s with
  | nil => intro k _ h _; simp at h; simp [h]
  | cons c s ih =>
    intro k h1 h2 h3
    cases k with
    | zero =>
      rcases h3 with h3 | h3
      · simp at h3
      · have : p c = false := by simpa [nth, List.getD] using h3
        simp [List.takeWhile_cons, this]
    | succ k =>
      have hc : p c = true := by simpa [nth, List.getD] using h1 0 (by omega)
      have := ih (k := k) (fun j hj => by have := h1 (j + 1) (by omega); simpa [nth, List.getD] using this) (by simpa using h2) (by
        rcases h3 with h3 | h3
        · left; simpa using h3
        · right; simpa [nth, List.getD] using h3)
      simp [List.takeWhile_cons, hc, this]
theorem List.mem_takeWhile_imp' {p : UInt8 → Bool} : ∀ {s : Str} {x : UInt8}, x ∈ s.takeWhile p → p x = true
  | c :: s, x, h => by
    rw [List.takeWhile_cons] at h
    split at h
    · rcases List.mem_cons.1 h with rfl | h
      · assumption
      · exact List.mem_takeWhile_imp' h
    · cases h
theorem tw_self {p : UInt8 → Bool} : ∀ {s : Str}, (∀ x ∈ s, p x = true) → s.takeWhile p = s
  | [], _ => rfl
  | c :: s, h => by rw [List.takeWhile_cons, if_pos (h c (by simp)), tw_self fun x hx => h x (List.mem_cons_of_mem _ hx)]
theorem tw_all {s : Str} {p : UInt8 → Bool} : decide (((s.takeWhile p).length : Int) = s.length) = s.all p := by
  rw [Bool.eq_iff_iff, decide_eq_true_iff, List.all_eq_true]
  constructor
  · intro h
    have h' : (s.takeWhile p).length = s.length := by omega
    have e : s.takeWhile p = s := by
      have := List.takeWhile_prefix (p := p) (l := s)
      exact this.eq_of_length h'
    intro x hx
    rw [← e] at hx
    exact List.mem_takeWhile_imp' hx
  · intro h
    rw [tw_self h]
theorem span_ok (s : Str) (f : Nat) (p : UInt8 → Bool) (hl : s.length ≤ 9223372036854775807) (hf : FnOK Try.prog f) (hp : ∀ c : UInt8, ACalls Try.prog f [cU8 c] (.pv (cB (p c)))) : ACalls Try.prog 95 [cS s, .one (.fn f [])] (.pv (cI (s.takeWhile p).length)) := by
  refine ACalls.of_W (qs := [cI (s.takeWhile p).length]) [4] 20 Try.func95 (by kernel_rfl) rfl rfl rfl fun G => ?_
  refine W.initA (hw := ?_)
  repeat' (first | ((first | apply U_ | (apply Ug_; exact rfl; exact rfl) | (apply Ugq_; exact rfl; exact rfl)); (first | exact QX.B TYok | exact QX.Len TYok | exact QX.Idxs TYok); exact rfl) | refine SC ?_ | refine SG ?_ | (refine W.condA (ht := fun hb => ?_) (hf := fun hb => ?_) <;> (try simp at hb) <;> (try (exfalso; omega))))
  apply W.loopP (σ := Nat) 20 [0, 1] (fun k => k ≤ s.length ∧ ∀ j, j < k → p (nth s j) = true) (fun k => [(5, vI k)]) (fun _ => []) (fun k => s.length - k) (0)
  case hp => repeat (first | exact Pick.nil | apply Pick.cons rfl)
  case h0 =>
    refine ⟨by simp, ?_⟩
    exact Le.auto
  case round =>
    rintro k ⟨h1, h2⟩
    apply W.norm (by repeat (first | exact App.nil | apply App.cons))
    repeat' (first | ((first | apply U_ | (apply Ug_; exact rfl; exact rfl) | (apply Ugq_; exact rfl; exact rfl)); (first | exact QX.B TYok | exact QX.Len TYok | exact QX.Idxs TYok | (apply Q_callvA (hp (nth s k)); exact Ev.auto; exact EvA.auto)); exact rfl) | refine SC ?_ | refine SG ?_ | (refine W.condA (ht := fun hb => ?_) (hf := fun hb => ?_) <;> (try simp at hb) <;> (try (exfalso; omega))))
    · refine ⟨k + 1, ⟨by omega, fun j hj => ?_⟩, ?_, ?_⟩
      · by_cases e : j = k
        · subst e; exact hb.2
        · exact h2 j (by omega)
      · exact Le.auto
      · (try simp only); omega
    · have e : (s.takeWhile p).length = k := tw_at h2 h1 (by
        by_cases hk : k = s.length
        · exact .inl hk
        · exact .inr (hb (by omega)))
      rw [e]
      exact Fin.ret ResL.auto
theorem index_ok (l : List Str) (s : Str) (hl : l.length ≤ 9223372036854775807) : ACalls Try.prog 68 [slS l, cS s] (.pv (cI (if s ∈ l then (l.idxOf s : Int) else -1))) := by
  refine ACalls.of_W (qs := [cI (if s ∈ l then (l.idxOf s : Int) else -1)]) [4] 19 Try.func68 (by kernel_rfl) rfl rfl rfl fun G => ?_
  refine W.initA (hw := ?_)
  repeat' (first | ((first | apply U_); (first | exact QX.B TYok | exact QX.Len TYok | exact QX.Idx TYok); exact rfl) | refine SC ?_ | (apply S_isnil TYok; exact rfl; exact rfl; exact rfl; exact Ev.auto; intro bn hnil) | (refine W.condA (ht := fun hb => ?_) (hf := fun hb => ?_) <;> (try simp at hb) <;> (try (exfalso; omega))))
  apply W.loopP (σ := Nat) 19 [0, 1, 7] (fun k => k ≤ l.length ∧ s ∉ l.take k) (fun k => [(8, vI k)]) (fun _ => []) (fun k => l.length - k) (0)
  case hp => repeat (first | exact Pick.nil | apply Pick.cons rfl)
  case h0 =>
    refine ⟨by simp, ?_⟩
    exact Le.auto
  case round =>
    rintro k ⟨h1, h2⟩
    apply W.norm (by repeat (first | exact App.nil | apply App.cons))
    repeat' (first | ((first | apply U_); (first | exact QX.B TYok | exact QX.Len TYok | exact QX.Idx TYok); exact rfl) | refine SC ?_ | (apply S_isnil TYok; exact rfl; exact rfl; exact rfl; exact Ev.auto; intro bn hnil) | (refine W.condA (ht := fun hb => ?_) (hf := fun hb => ?_) <;> (try simp at hb) <;> (try (exfalso; omega))))
    · have hk : k < l.length := by omega
      have hm : s ∈ l := by rw [hb]; rw [nth, List.getD, List.getElem?_eq_getElem hk]; exact List.getElem_mem hk
      have e : l.idxOf s = k := by
        have e1 : l = l.take k ++ l.drop k := (List.take_append_drop k l).symm
        rw [e1, List.idxOf_append, if_neg h2, drop_nth hk, ← hb]
        simp; omega
      rw [if_pos hm, e]
      exact Fin.ret ResL.auto
    · refine ⟨k + 1, ⟨by omega, ?_⟩, ?_, ?_⟩
      · intro hm
        rw [take_nth (by omega)] at hm
        rcases List.mem_append.1 hm with hm | hm
        · exact h2 hm
        · exact hb (List.mem_singleton.1 hm)
      · exact Le.auto
      · (try simp only); omega
    · obtain rfl : k = l.length := by omega
      rw [List.take_length] at h2
      rw [if_neg h2]
      exact Fin.ret ResL.auto
theorem contains_ok (l : List Str) (s : Str) (hl : l.length ≤ 9223372036854775807) : ACalls Try.prog 76 [slS l, cS s] (.pv (cB (decide (s ∈ l)))) := by
  refine ACalls.of_W (qs := [cB (decide (s ∈ l))]) [4] 9 Try.func76 (by kernel_rfl) rfl rfl rfl fun G => ?_
  refine W.initA (hw := ?_)
  repeat' (first | ((first | apply U_); (first | exact QX.B TYok | exact QCl (index_ok l s hl)); exact rfl) | refine SC ?_ | (refine W.condA (ht := fun hb => ?_) (hf := fun hb => ?_) <;> (try simp at hb) <;> (try (exfalso; omega))))
  have e : decide (s ∈ l) = decide ((if s ∈ l then (l.idxOf s : Int) else -1) ≥ 0) := by
    by_cases h : s ∈ l <;> simp [h]
  rw [e]
  exact Fin.ret ResL.auto
def wordF (s : Str) : Bool := decide (s ≠ []) && letterF (nth s 0) && decide (s.length ≤ 20) && s.all alnum
theorem word_ok (s : Str) (hl : s.length ≤ 9223372036854775807) : ACalls Try.prog 75 [cS s] (.pv (cB (wordF s))) := by
  refine ACalls.of_W (qs := [cB (wordF s)]) [2] 21 Try.func75 (by kernel_rfl) rfl rfl rfl fun G => ?_
  refine W.initA (hw := ?_)
  by_cases h0 : s = []
  · subst h0
    repeat' (first | ((first | apply U_ | (apply Ug_; exact rfl; exact rfl) | (apply Ugq_; exact rfl; exact rfl)); (first | exact QX.B TYok | exact QX.Len TYok | exact QX.Idxs TYok | exact QCl (letter_ok 0) | exact QCl (letter_ok (nth [] 0)) | exact QCl (span_ok [] 66 alnum hl (alnum_ok 0).fn alnum_ok)); exact rfl) | refine SC ?_ | (apply S_isnil TYok; exact rfl; exact rfl; exact rfl; exact Ev.auto; intro bn hnil) | refine SG ?_ | (refine W.condA (ht := fun hb => ?_) (hf := fun hb => ?_) <;> (try simp at hb) <;> (try (exfalso; omega))))
    have e : wordF [] = false := by simp [wordF]
    rw [e]
    exact Fin.ret ResL.auto
  have hpos : 0 < s.length := List.length_pos_iff.2 h0
  repeat' (first | ((first | apply U_ | (apply Ug_; exact rfl; exact rfl) | (apply Ugq_; exact rfl; exact rfl)); (first | exact QX.B TYok | exact QX.Len TYok | exact QX.Idxs TYok | exact QCl (letter_ok (nth s 0)) | exact QCl (span_ok s 96 alnum hl (alnum_ok 0).fn alnum_ok)); exact rfl) | refine SC ?_ | (apply S_isnil TYok; exact rfl; exact rfl; exact rfl; exact Ev.auto; intro bn hnil) | refine SG ?_ | (refine W.condA (ht := fun hb => ?_) (hf := fun hb => ?_) <;> (try simp at hb) <;> (try (exfalso; omega))))
  · have e : wordF s = false := by
      rcases hb with (h | h) | h
      · exact absurd h h0
      · simp [wordF, h]
      · simp [wordF, show ¬ (s.length ≤ 20) by omega]
    rw [e]
    exact Fin.ret ResL.auto
  · have e : wordF s = decide (((s.takeWhile alnum).length : Int) = s.length) := by
      rw [tw_all]
      simp [wordF, hb.1.1, hb.1.2, show s.length ≤ 20 by omega]
    rw [e]
    exact Fin.ret ResL.auto
def nameF (s : Str) : Bool := wordF s && !decide (s ∈ RES)
theorem res_len : RES.length ≤ 9223372036854775807 := by decide
theorem name_ok (s : Str) (hl : s.length ≤ 9223372036854775807) : ACalls Try.prog 51 [cS s] (.pv (cB (nameF s))) := by
  refine ACalls.of_W (qs := [_]) [2] 11 Try.func51 (by kernel_rfl) rfl rfl rfl fun G => ?_
  refine W.initA (hw := ?_)
  repeat' (first | ((first | apply U_ | (apply Ug_; exact rfl; exact rfl) | (apply Ugq_; exact rfl; exact rfl)); (first | exact QX.B TYok | exact QCl (word_ok s hl) | exact QCl (contains_ok RES s res_len) | exact QCd (reserved_ok)); exact rfl) | refine SC ?_ | refine SG ?_ | (refine W.condA (ht := fun hb => ?_) (hf := fun hb => ?_) <;> (try simp at hb) <;> (try (exfalso; omega))))
  exact Fin.ret ResL.auto
end Go.Proofs.Ytjedkgogjehigaa
end
section
set_option linter.unusedVariables false
set_option linter.unusedSimpArgs false
set_option maxHeartbeats 8000000
set_option linter.unusedSectionVars false
namespace Go.Proofs.Ytjedkgogjehigaa
open Lf Go
attribute [local irreducible] PureOp EffOp Ev RG W Then InBlock Lf.Fin nth App InitE Pick SubE EvL EvD EvP EvR ResL Lf.Lex SubR SubBR EvC FinO FinM ResM ResD FinS val pw digs trimL
inductive Exp where
  | mk (op n u : Int) (s : Str) (l : List Exp)
instance : Inhabited Exp := ⟨.mk 0 0 0 [] []⟩
def Exp.op : Exp → Int | .mk op _ _ _ _ => op
def Exp.n : Exp → Int | .mk _ n _ _ _ => n
def Exp.u : Exp → Int | .mk _ _ u _ _ => u
def Exp.s : Exp → Str | .mk _ _ _ s _ => s
def Exp.args : Exp → List Exp | .mk _ _ _ _ l => l
mutual
def encE : Exp → List Cell
  | .mk op n u s l => [.int .i64 op, .int .i64 n, .int .i64 u, .str s, .sl (encEs l)]
def encEs : List Exp → List (List Cell)
  | [] => []
  | e :: r => encE e :: encEs r
end
theorem encEs_map : ∀ l, encEs l = l.map encE
  | [] => by simp [encEs]
  | e :: r => by rw [encEs, encEs_map r]; rfl
theorem encE_mk (op n u : Int) (s : Str) (l : List Exp) : encE (.mk op n u s l) = [.int .i64 op, .int .i64 n, .int .i64 u, .str s, .sl (l.map encE)] := by rw [encE, encEs_map]
def encX (e : Exp) : List Cell := [.int .i64 e.op, .int .i64 e.n, .int .i64 e.u, .str e.s, .sl (e.args.map encE)]
theorem encE_fun : encE = encX := funext fun e => by obtain ⟨op, n, u, s, l⟩ := e; exact encE_mk op n u s l
abbrev aE (e : Exp) : PV := .agg (encX e)
abbrev slE (l : List Exp) : PV := .one (.sl (l.map encX))
theorem aE_mk (op n u : Int) (s : Str) (l : List Exp) : aE (.mk op n u s l) = .agg [.int .i64 op, .int .i64 n, .int .i64 u, .str s, .sl (l.map encX)] := by
  show PV.agg [_, _, _, _, Cell.sl (l.map encE)] = _
  rw [encE_fun]; rfl
def encJ (n : Int) : List Cell := [.int .i64 n]
abbrev slJ (l : List Int) : PV := .one (.sl (l.map encJ))
mutual
theorem Exp.ind {P : Exp → Prop} (h : ∀ op n u s l, (∀ x ∈ l, P x) → P (.mk op n u s l)) : ∀ e, P e
  | .mk op n u s l => h op n u s l (Exp.inds h l)
theorem Exp.inds {P : Exp → Prop} (h : ∀ op n u s l, (∀ x ∈ l, P x) → P (.mk op n u s l)) : ∀ l : List Exp, ∀ x ∈ l, P x
  | [], x, hx => by cases hx
  | e :: r, x, hx => match List.mem_cons.1 hx with
    | .inl h1 => h1 ▸ Exp.ind h e
    | .inr h2 => Exp.inds h r x h2
end
inductive OkE : Exp → Prop
  | mk {op n u : Int} {s : Str} {l : List Exp} (hs : s.length ≤ 9223372036854775807) (hl : l.length ≤ 9223372036854775807) (h : ∀ x ∈ l, OkE x) : OkE (.mk op n u s l)
def fidx {α : Type} (p : α → Bool) (l : List α) : Int := if l.any p then ((l.findIdx p : Nat) : Int) else -1
theorem any_take {α : Type} [Inhabited α] {l : List α} {p : α → Bool} {k : Nat} (h : k < l.length) : (l.take (k + 1)).any p = ((l.take k).any p || p (nth l k)) := by
  rw [take_nth h]; simp
theorem fidx_nn {α : Type} (p : α → Bool) (l : List α) : decide (fidx p l ≥ 0) = l.any p := by
  unfold fidx
  cases h : l.any p <;> simp
theorem fidx_hit {α : Type} [Inhabited α] {l : List α} {p : α → Bool} {k : Nat} (h : k < l.length) (h1 : (l.take k).any p = false) (h2 : p (nth l k) = true) : fidx p l = k := by
  have ha : l.any p = true := List.any_eq_true.2 ⟨nth l k, nth_mem h, h2⟩
  rw [fidx, if_pos ha]
  have : l.findIdx p = k := by
    rw [List.findIdx_eq h]
    refine ⟨by rw [← nth_eq h]; exact h2, fun j hj => ?_⟩
    have hm : l[j] ∈ l.take k := List.mem_take_iff_getElem.2 ⟨j, by omega, rfl⟩
    cases hp : p l[j] with
    | false => rfl
    | true => rw [List.any_eq_true.2 ⟨_, hm, hp⟩] at h1; cases h1
  rw [this]
theorem fidx_miss {α : Type} {l : List α} {p : α → Bool} (h : l.any p = false) : fidx p l = -1 := by rw [fidx, if_neg (by rw [h]; simp)]
theorem indexE_ok (l : List Exp) (f : Nat) (caps : List Cell) (p : Exp → Bool) (hl : l.length ≤ 9223372036854775807) (hp : ∀ x ∈ l, ACalls Try.prog f (aE x :: caps.map PV.one) (.pv (cB (p x)))) : ACalls Try.prog 78 [slE l, .one (.fn f caps)] (.pv (cI (fidx p l))) := by
  refine ACalls.of_W (qs := [cI (fidx p l)]) [4] 19 Try.func78 (by kernel_rfl) rfl rfl rfl fun G => ?_
  refine W.initA (hw := ?_)
  repeat' (first | ((first | apply U_); (first | exact QX.B TYok | exact QX.Len TYok | exact QX.Idx TYok); exact rfl) | refine SC ?_ | (refine W.condA (ht := fun hb => ?_) (hf := fun hb => ?_) <;> (try simp at hb) <;> (try (exfalso; omega))))
  apply W.loopP (σ := Nat) 19 [0, 1, 7] (fun k => k ≤ l.length ∧ (l.take k).any p = false) (fun k => [(8, vI k)]) (fun _ => []) (fun k => l.length - k) (0)
  case hp => repeat (first | exact Pick.nil | apply Pick.cons rfl)
  case h0 =>
    refine ⟨by simp, ?_⟩
    exact Le.auto
  case round =>
    rintro k ⟨h1, h2⟩
    apply W.norm (by repeat (first | exact App.nil | apply App.cons))
    by_cases hk : k < l.length
    · repeat' (first | ((first | apply U_); (first | exact QX.B TYok | exact QX.Len TYok | exact QX.Idx TYok | (apply Q_callvA (hp (nth l k) (nth_mem hk)); exact Ev.auto; exact EvA.auto)); exact rfl) | refine SC ?_ | (refine W.condA (ht := fun hb => ?_) (hf := fun hb => ?_) <;> (try simp at hb) <;> (try (exfalso; omega))))
      · rw [fidx_hit ‹_› h2 hb]
        exact Fin.ret ResL.auto
      · refine ⟨k + 1, ⟨by omega, ?_⟩, ?_, ?_⟩
        · rw [any_take ‹_›, h2, hb]; rfl
        · exact Le.auto
        · (try simp only); omega
    · obtain rfl : k = l.length := by omega
      rw [List.take_length] at h2
      repeat' (first | ((first | apply U_); (first | exact QX.B TYok | exact QX.Len TYok | exact QX.Idx TYok); exact rfl) | refine SC ?_ | (refine W.condA (ht := fun hb => ?_) (hf := fun hb => ?_) <;> (try simp at hb) <;> (try (exfalso; omega))))
      rw [fidx_miss h2]
      exact Fin.ret ResL.auto
theorem indexI_ok (l : List Int) (f : Nat) (caps : List Cell) (p : Int → Bool) (hl : l.length ≤ 9223372036854775807) (hp : ∀ x ∈ l, ACalls Try.prog f (cI x :: caps.map PV.one) (.pv (cB (p x)))) : ACalls Try.prog 93 [slJ l, .one (.fn f caps)] (.pv (cI (fidx p l))) := by
  refine ACalls.of_W (qs := [cI (fidx p l)]) [4] 19 Try.func93 (by kernel_rfl) rfl rfl rfl fun G => ?_
  refine W.initA (hw := ?_)
  repeat' (first | ((first | apply U_); (first | exact QX.B TYok | exact QX.Len TYok | exact QX.Idx TYok); exact rfl) | refine SC ?_ | (refine W.condA (ht := fun hb => ?_) (hf := fun hb => ?_) <;> (try simp at hb) <;> (try (exfalso; omega))))
  apply W.loopP (σ := Nat) 19 [0, 1, 7] (fun k => k ≤ l.length ∧ (l.take k).any p = false) (fun k => [(8, vI k)]) (fun _ => []) (fun k => l.length - k) (0)
  case hp => repeat (first | exact Pick.nil | apply Pick.cons rfl)
  case h0 =>
    refine ⟨by simp, ?_⟩
    exact Le.auto
  case round =>
    rintro k ⟨h1, h2⟩
    apply W.norm (by repeat (first | exact App.nil | apply App.cons))
    by_cases hk : k < l.length
    · repeat' (first | ((first | apply U_); (first | exact QX.B TYok | exact QX.Len TYok | exact QX.Idx TYok | (apply Q_callvA (hp (nth l k) (nth_mem hk)); exact Ev.auto; exact EvA.auto)); exact rfl) | refine SC ?_ | (refine W.condA (ht := fun hb => ?_) (hf := fun hb => ?_) <;> (try simp at hb) <;> (try (exfalso; omega))))
      · rw [fidx_hit ‹_› h2 hb]
        exact Fin.ret ResL.auto
      · refine ⟨k + 1, ⟨by omega, ?_⟩, ?_, ?_⟩
        · rw [any_take ‹_›, h2, hb]; rfl
        · exact Le.auto
        · (try simp only); omega
    · obtain rfl : k = l.length := by omega
      rw [List.take_length] at h2
      repeat' (first | ((first | apply U_); (first | exact QX.B TYok | exact QX.Len TYok | exact QX.Idx TYok); exact rfl) | refine SC ?_ | (refine W.condA (ht := fun hb => ?_) (hf := fun hb => ?_) <;> (try simp at hb) <;> (try (exfalso; omega))))
      rw [fidx_miss h2]
      exact Fin.ret ResL.auto
theorem containsE_ok (l : List Exp) (f : Nat) (caps : List Cell) (p : Exp → Bool) (hl : l.length ≤ 9223372036854775807) (hp : ∀ x ∈ l, ACalls Try.prog f (aE x :: caps.map PV.one) (.pv (cB (p x)))) : ACalls Try.prog 52 [slE l, .one (.fn f caps)] (.pv (cB (l.any p))) := by
  refine ACalls.of_W (qs := [cB (l.any p)]) [4] 9 Try.func52 (by kernel_rfl) rfl rfl rfl fun G => ?_
  refine W.initA (hw := ?_)
  repeat' (first | ((first | apply U_); (first | exact QX.B TYok | exact QCl (indexE_ok l f caps p hl hp)); exact rfl) | refine SC ?_ | (refine W.condA (ht := fun hb => ?_) (hf := fun hb => ?_) <;> (try simp at hb) <;> (try (exfalso; omega))))
  rw [← fidx_nn]
  exact Fin.ret ResL.auto
theorem containsI_ok (l : List Int) (f : Nat) (caps : List Cell) (p : Int → Bool) (hl : l.length ≤ 9223372036854775807) (hp : ∀ x ∈ l, ACalls Try.prog f (cI x :: caps.map PV.one) (.pv (cB (p x)))) : ACalls Try.prog 73 [slJ l, .one (.fn f caps)] (.pv (cB (l.any p))) := by
  refine ACalls.of_W (qs := [cB (l.any p)]) [4] 9 Try.func73 (by kernel_rfl) rfl rfl rfl fun G => ?_
  refine W.initA (hw := ?_)
  repeat' (first | ((first | apply U_); (first | exact QX.B TYok | exact QCl (indexI_ok l f caps p hl hp)); exact rfl) | refine SC ?_ | (refine W.condA (ht := fun hb => ?_) (hf := fun hb => ?_) <;> (try simp at hb) <;> (try (exfalso; omega))))
  rw [← fidx_nn]
  exact Fin.ret ResL.auto
end Go.Proofs.Ytjedkgogjehigaa
end
section
set_option linter.unusedVariables false
set_option linter.unusedSimpArgs false
set_option maxHeartbeats 8000000
set_option linter.unusedSectionVars false
namespace Go.Proofs.Ytjedkgogjehigaa
open Lf Go
attribute [local irreducible] PureOp EffOp Ev RG W Then InBlock Lf.Fin nth App InitE Pick SubE EvL EvD EvP EvR ResL Lf.Lex SubR SubBR EvC FinO FinM ResM ResD FinS val pw digs trimL
theorem PureOp.given {P : Program} {G : Ghost} {A : St} {o : Oper} {p : Prop} {v : AV} (h : p → PureOp P G A o p v) : PureOp P G A o p v := by
  unfold PureOp at h ⊢
  exact fun Φ β a w hs hp => h hp Φ β a w hs hp
theorem Q_litDp {P : Program} {G : Ghost} {T : TT} (hT : TOK P T) {n0 : Nat} {env : List (Nat × (Prop × AV))} {bl : List (Nat × Blk)} {p : Prop} {dst : Option Nat} {ty : TypeId} {pos : String} {after : Array Edge} {gd : Option (Nat × Bool)} {t e n : Nat} {ps : List (Nat × Operand)} {rs : List (List Cell)} {ti te : TI} (hx : p → EvR (St.mk n0 env bl) ps 0 rs) (ht : T t = some ti) (hk : ti.kind = .slice e) (he : T e = some te) (hlen : rs.length = n) (hrs : rs.all (fun r => Nat.beq r.length te.sz) = true)
    (hb : Nat.ble (n * te.sz) 16777216 = true) : PureOp P G (St.mk n0 env bl) ⟨dst, .buildSlice t n ps.toArray, ty, pos, after, gd⟩ p (.pv (.one (.sl rs))) := PureOp.given fun hp => Q_litD hT (hx hp) ht hk he hlen hrs hb
def inF (a b n : Int) : Bool := decide (a ≤ n) && decide (n ≤ b)
theorem in1_ok (a b n : Int) : ACalls Try.prog 74 [cI n, .one (.ptr [.int .i64 a]), .one (.ptr [.int .i64 b])] (.pv (cB (!inF a b n))) := by
  refine ACalls.of_W (qs := [cB (!inF a b n)]) [4] 13 Try.func74 (by kernel_rfl) rfl rfl rfl fun G => ?_
  refine W.initA (hw := ?_)
  repeat' (first | ((first | apply U_ | (apply Ug_; exact rfl; exact rfl) | (apply Ugq_; exact rfl; exact rfl)); (first | exact QX.B TYok); exact rfl) | refine SC ?_ | refine SG ?_ | (refine W.condA (ht := fun hb => ?_) (hf := fun hb => ?_) <;> (try simp at hb) <;> (try (exfalso; omega))))
  have e : (!inF a b n) = (decide (n < a) || decide (n > b)) := by
    rw [Bool.eq_iff_iff]; simp [inF] <;> omega
  rw [e]
  exact Fin.ret ResL.auto
theorem in_ok (a b : Int) (l : List Int) (hl : l.length ≤ 9223372036854775807) : ACalls Try.prog 50 [cI a, cI b, slJ l] (.pv (cB (l.all (inF a b)))) := by
  refine ACalls.of_W (qs := [cB (l.all (inF a b))]) [6] 11 Try.func50 (by kernel_rfl) rfl rfl rfl fun G => ?_
  refine W.initA (hw := ?_)
  repeat' (first | ((first | apply U_); (first | exact QX.B TYok | exact QX.Fun TYok | exact QCd (containsI_ok l 74 [.ptr [.int .i64 a], .ptr [.int .i64 b]] (fun n => !inF a b n) hl (fun n _ => in1_ok a b n))); exact rfl) | refine SX.Box TYok (h := ?_) | (refine S_makeFuncF (cs := [.ptr [.int .i64 a], .ptr [.int .i64 b]]) (EvC.cons Ev.auto (EvC.cons Ev.auto EvC.nil)) ?_ ?_; exact rfl) | refine SC ?_ | (refine W.condA (ht := fun hb => ?_) (hf := fun hb => ?_) <;> (try simp at hb) <;> (try (exfalso; omega))))
  have e : l.all (inF a b) = !(l.any fun n => !inF a b n) := by
    rw [Bool.eq_iff_iff]; simp
  rw [e]
  exact Fin.ret ResL.auto
/-- the empty string, as1 the program writes it -/
abbrev E0 : Str := (ByteArray.mk #[]).data.toList
def opsF (op : Int) : Int := if op = 0 ∨ op = 1 ∨ op = 2 ∨ op = 3 then 0 else if op = 12 ∨ op = 16 ∨ op = 17 ∨ op = 18 then 1 else if op = 15 then 3 else if op < 0 ∨ op ≥ 19 then -1 else 2
theorem operands_ok (op : Int) : ACalls Try.prog 49 [cI op] (.pv (cI (opsF op))) := by
  refine ACalls.of_W (qs := [cI (opsF op)]) [2] 22 Try.func49 (by kernel_rfl) rfl rfl rfl fun G => ?_
  refine W.initA (hw := ?_)
  repeat' (first | ((first | apply U_ | (apply Ug_; exact rfl; exact rfl) | (apply Ugq_; exact rfl; exact rfl)); (first | exact QX.B TYok); exact rfl) | refine SC ?_ | (apply S_isnil TYok; exact rfl; exact rfl; exact rfl; exact Ev.auto; intro bn hnil) | refine SG ?_ | (refine W.condA (ht := fun hb => ?_) (hf := fun hb => ?_) <;> (try simp at hb) <;> (try (exfalso; omega))))
  all_goals first
    | (rw [opsF, if_pos (by omega)]; exact Fin.ret ResL.auto)
    | (rw [opsF, if_neg (by omega), if_pos (by omega)]; exact Fin.ret ResL.auto)
    | (rw [opsF, if_neg (by omega), if_neg (by omega), if_pos (by omega)]; exact Fin.ret ResL.auto)
    | (rw [opsF, if_neg (by omega), if_neg (by omega), if_neg (by omega), if_pos (by omega)]; exact Fin.ret ResL.auto)
    | (rw [opsF, if_neg (by omega), if_neg (by omega), if_neg (by omega), if_neg (by omega)]; exact Fin.ret ResL.auto)
def rightF : Nat → Exp → Bool
  | 0, _ => false
  | d + 1, .mk op n u s l => decide ((l.length : Int) = opsF op) && (if op = 0 then decide (s = []) && inF 0 4 u && inF 0 (if u = 4 then 1 else 1000000000000000) n else if op = 1 ∨ op = 2 ∨ op = 3 then decide (n = 0) && decide (u = 0) && nameF s
    else if op = 16 ∨ op = 17 ∨ op = 18 then decide (u = 0) && decide (s = []) && inF 1 1000 n && l.all (rightF d) else decide (n = 0) && decide (u = 0) && decide (s = []) && l.all (rightF d))
end Go.Proofs.Ytjedkgogjehigaa
end
section
set_option linter.unusedVariables false
set_option linter.unusedSimpArgs false
set_option maxHeartbeats 8000000
set_option linter.unusedSectionVars false
namespace Go.Proofs.Ytjedkgogjehigaa
open Lf Go
attribute [local irreducible] PureOp EffOp Ev RG W Then InBlock Lf.Fin nth App InitE Pick SubE EvL EvD EvP EvR ResL Lf.Lex SubR SubBR EvC FinO FinM ResM ResD FinS val pw digs trimL
theorem right0_a
    {d : Nat} {n u : Int} {s : Str} {l : List Exp} (hs : s.length ≤ 9223372036854775807) (hl : l.length ≤ 9223372036854775807) (hlen : (l.length : Int) = opsF 0)
    (hdc : (((d + 1 : Nat) : Int)) ≠ 0) (hdb : (d : Int) ≤ 100) (ih : ∀ x ∈ l, ACalls Try.prog 30 [aE x, cI (((d + 1 : Nat) : Int) - 1)] (.pv (cB (rightF d x)))) (cl : ∀ x ∈ l, ACalls Try.prog 53 [aE x, .one (.ptr [.int .i64 ((d + 1 : Nat) : Int)])] (.pv (cB (!rightF d x))))
    (hA : decide (s = E0) = false) : ACalls Try.prog 30 [.agg [.int .i64 0, .int .i64 n, .int .i64 u, .str s, .sl (l.map encX)], cI ((d + 1 : Nat) : Int)] (.pv (cB false)) := by
  refine ACalls.of_W (qs := [cB false]) [4] 104 Try.func30 (by kernel_rfl) rfl rfl rfl fun G => ?_
  refine W.initA (hw := ?_)
  repeat' (first | ((first | apply U_ | (apply Ug_; exact rfl; exact rfl) | (apply Ugq_; exact rfl; exact rfl) | apply Lex.u | (apply Lex.g; exact rfl; exact rfl) | (apply Lex.gq; exact rfl; exact rfl)); (first | (apply Q_litD TYok; (repeat (first | exact EvR.nil | apply EvR.cons Ev.auto)); exact rfl; exact rfl; exact rfl; exact rfl; exact rfl; exact rfl) | exact QX.B TYok | exact QX.Len TYok | exact QX.Idx TYok | exact QX.Fun TYok | exact QCl (operands_ok 0)); exact rfl) | refine SX.Lit TYok (h := ?_) | refine SX.Box TYok (h := ?_) | refine SC ?_ | (apply S_isnil TYok; exact rfl; exact rfl; exact rfl; exact Ev.auto; intro bn hnil) | (apply RG.gT; exact rfl; exact rfl; (first | assumption | decide)) | (apply RG.gF; exact rfl; exact rfl; (first | assumption | decide | (rw [ne_eq, Bool.not_eq_true]; assumption) | (rw [ne_eq, Bool.not_eq_false]; assumption)); exact rfl) | (apply W.draw2 (id := 1) [0, 1, 3, 7, 15, 31, 7, 71, 199, 511, 1023] [[3], [6], [7], [2, 8], [9, 8], [10, 8], [2, 8], [12, 8], [13, 8], [11, 14, 8], [8, 15]] 11 [(6, 8), (7, 64), (8, 128), (9, 260), (10, 768), (11, 1280), (12, 260), (13, 4352), (14, 8448), (15, 18688), (16, 33024)] mixed (by kernel_rfl) rfl rfl) | (apply W.draw2 (id := 16) [0, 1, 3, 7, 15, 31, 63, 127, 255, 511, 1023, 2047, 4095, 8191, 16383, 32767, 65535, 131071, 262143, 32767, 557055, 2097151, 4194303, 8388607] [[2], [61], [62], [63], [2, 64], [65, 64], [66, 64], [64, 67], [68], [2, 69], [70, 69], [71, 69], [72, 69], [69, 73], [74], [2, 75], [76, 75], [77, 75], [78, 75], [3, 75], [80, 75], [79, 81, 75], [75, 82], [83]] 24 [(61, 4), (62, 2305843009213693952), (63, 4611686018427387904), (64, 9223372036854775808), (65, 18446744073709551620), (66, 55340232221128654848), (67, 92233720368547758080), (68, 166020696663385964544), (69, 295147905179352825856), (70, 590295810358705651716), (71, 1770887431076116955136), (72, 2951479051793528258560), (73, 5312662293228350865408), (74, 10035028776097996079104), (75, 18889465931478580854784), (76, 37778931862957161709572), (77, 113336795588871485128704), (78, 188894659314785808547840), (79, 340010386766614455386112), (80, 37778931862957161709576), (81, 1246704751477586336415744), (82, 3060093480899530098475008), (83, 4873482210321473860534272), (4, 9671406556917033397649408)] mixed (by kernel_rfl) rfl rfl) | (refine W.condA (ht := fun hb => ?_) (hf := fun hb => ?_) <;> (try simp at hb) <;> (try (exfalso; omega))))
  all_goals exact Fin.ret ResL.auto
theorem right0_b
    {d : Nat} {n u : Int} {s : Str} {l : List Exp} (hs : s.length ≤ 9223372036854775807) (hl : l.length ≤ 9223372036854775807) (hlen : (l.length : Int) = opsF 0)
    (hdc : (((d + 1 : Nat) : Int)) ≠ 0) (hdb : (d : Int) ≤ 100) (ih : ∀ x ∈ l, ACalls Try.prog 30 [aE x, cI (((d + 1 : Nat) : Int) - 1)] (.pv (cB (rightF d x)))) (cl : ∀ x ∈ l, ACalls Try.prog 53 [aE x, .one (.ptr [.int .i64 ((d + 1 : Nat) : Int)])] (.pv (cB (!rightF d x))))
    (hA : decide (s = E0) = true) (hB : [u].all (inF 0 4) = false) : ACalls Try.prog 30 [.agg [.int .i64 0, .int .i64 n, .int .i64 u, .str s, .sl (l.map encX)], cI ((d + 1 : Nat) : Int)] (.pv (cB false)) := by
  have hC : (decide (s = E0) && [u].all (inF 0 4)) = false := by rw [hA, hB]; rfl
  refine ACalls.of_W (qs := [cB false]) [4] 104 Try.func30 (by kernel_rfl) rfl rfl rfl fun G => ?_
  refine W.initA (hw := ?_)
  repeat' (first | ((first | apply U_ | (apply Ug_; exact rfl; exact rfl) | (apply Ugq_; exact rfl; exact rfl) | apply Lex.u | (apply Lex.g; exact rfl; exact rfl) | (apply Lex.gq; exact rfl; exact rfl)); (first | (apply Q_litD TYok; (repeat (first | exact EvR.nil | apply EvR.cons Ev.auto)); exact rfl; exact rfl; exact rfl; exact rfl; exact rfl; exact rfl) | exact QX.B TYok | exact QX.Len TYok | exact QX.Idx TYok | exact QX.Fun TYok | exact QCl (operands_ok 0) | exact QCl (in_ok 0 4 [u] (by simp))); exact rfl) | refine SX.Lit TYok (h := ?_) | refine SX.Box TYok (h := ?_) | refine SC ?_ | (apply S_isnil TYok; exact rfl; exact rfl; exact rfl; exact Ev.auto; intro bn hnil) | (apply RG.gT; exact rfl; exact rfl; (first | assumption | decide)) | (apply RG.gF; exact rfl; exact rfl; (first | assumption | decide | (rw [ne_eq, Bool.not_eq_true]; assumption) | (rw [ne_eq, Bool.not_eq_false]; assumption)); exact rfl) | (apply W.draw2 (id := 1) [0, 1, 3, 7, 15, 31, 7, 71, 199, 511, 1023] [[3], [6], [7], [2, 8], [9, 8], [10, 8], [2, 8], [12, 8], [13, 8], [11, 14, 8], [8, 15]] 11 [(6, 8), (7, 64), (8, 128), (9, 260), (10, 768), (11, 1280), (12, 260), (13, 4352), (14, 8448), (15, 18688), (16, 33024)] mixed (by kernel_rfl) rfl rfl) | (apply W.draw2 (id := 16) [0, 1, 3, 7, 15, 31, 63, 127, 255, 511, 1023, 2047, 4095, 8191, 16383, 32767, 65535, 131071, 262143, 32767, 557055, 2097151, 4194303, 8388607] [[2], [61], [62], [63], [2, 64], [65, 64], [66, 64], [64, 67], [68], [2, 69], [70, 69], [71, 69], [72, 69], [69, 73], [74], [2, 75], [76, 75], [77, 75], [78, 75], [3, 75], [80, 75], [79, 81, 75], [75, 82], [83]] 24 [(61, 4), (62, 2305843009213693952), (63, 4611686018427387904), (64, 9223372036854775808), (65, 18446744073709551620), (66, 55340232221128654848), (67, 92233720368547758080), (68, 166020696663385964544), (69, 295147905179352825856), (70, 590295810358705651716), (71, 1770887431076116955136), (72, 2951479051793528258560), (73, 5312662293228350865408), (74, 10035028776097996079104), (75, 18889465931478580854784), (76, 37778931862957161709572), (77, 113336795588871485128704), (78, 188894659314785808547840), (79, 340010386766614455386112), (80, 37778931862957161709576), (81, 1246704751477586336415744), (82, 3060093480899530098475008), (83, 4873482210321473860534272), (4, 9671406556917033397649408)] mixed (by kernel_rfl) rfl rfl) | (refine W.condA (ht := fun hb => ?_) (hf := fun hb => ?_) <;> (try simp at hb) <;> (try (exfalso; omega))))
  all_goals exact Fin.ret ResL.auto
theorem right0_c
    {d : Nat} {n u : Int} {s : Str} {l : List Exp} (hs : s.length ≤ 9223372036854775807) (hl : l.length ≤ 9223372036854775807) (hlen : (l.length : Int) = opsF 0)
    (hdc : (((d + 1 : Nat) : Int)) ≠ 0) (hdb : (d : Int) ≤ 100) (ih : ∀ x ∈ l, ACalls Try.prog 30 [aE x, cI (((d + 1 : Nat) : Int) - 1)] (.pv (cB (rightF d x)))) (cl : ∀ x ∈ l, ACalls Try.prog 53 [aE x, .one (.ptr [.int .i64 ((d + 1 : Nat) : Int)])] (.pv (cB (!rightF d x))))
    (hA : decide (s = E0) = true) (hB : [u].all (inF 0 4) = true) : ACalls Try.prog 30 [.agg [.int .i64 0, .int .i64 n, .int .i64 u, .str s, .sl (l.map encX)], cI ((d + 1 : Nat) : Int)] (.pv (cB (decide (s = E0) && [u].all (inF 0 4) && [n].all (inF 0 (if u = 4 then 1 else 1000000000000000))))) := by
  have hC : (decide (s = E0) && [u].all (inF 0 4)) = true := by rw [hA, hB]; rfl
  refine ACalls.of_W (qs := [cB (decide (s = E0) && [u].all (inF 0 4) && [n].all (inF 0 (if u = 4 then 1 else 1000000000000000)))]) [4] 104 Try.func30 (by kernel_rfl) rfl rfl rfl fun G => ?_
  refine W.initA (hw := ?_)
  repeat' (first | ((first | apply U_ | (apply Ug_; exact rfl; exact rfl) | (apply Ugq_; exact rfl; exact rfl) | apply Lex.u | (apply Lex.g; exact rfl; exact rfl) | (apply Lex.gq; exact rfl; exact rfl)); (first | (apply Q_litD TYok; (repeat (first | exact EvR.nil | apply EvR.cons Ev.auto)); exact rfl; exact rfl; exact rfl; exact rfl; exact rfl; exact rfl) | exact QX.B TYok | exact QX.Len TYok | exact QX.Idx TYok | exact QX.Fun TYok | exact QCl (operands_ok 0) | exact QCl (in_ok 0 4 [u] (by simp)) | exact QCl (in_ok 0 1000000000000000 [n] (by simp)) | exact QCl (in_ok 0 1 [n] (by simp))); exact rfl) | refine SX.Lit TYok (h := ?_) | refine SX.Box TYok (h := ?_) | refine SC ?_ | (apply S_isnil TYok; exact rfl; exact rfl; exact rfl; exact Ev.auto; intro bn hnil) | (apply RG.gT; exact rfl; exact rfl; (first | assumption | decide)) | (apply RG.gF; exact rfl; exact rfl; (first | assumption | decide | (rw [ne_eq, Bool.not_eq_true]; assumption) | (rw [ne_eq, Bool.not_eq_false]; assumption)); exact rfl) | (apply W.draw2 (id := 1) [0, 1, 3, 7, 15, 31, 7, 71, 199, 511, 1023] [[3], [6], [7], [2, 8], [9, 8], [10, 8], [2, 8], [12, 8], [13, 8], [11, 14, 8], [8, 15]] 11 [(6, 8), (7, 64), (8, 128), (9, 260), (10, 768), (11, 1280), (12, 260), (13, 4352), (14, 8448), (15, 18688), (16, 33024)] mixed (by kernel_rfl) rfl rfl) | (apply W.draw2 (id := 16) [0, 1, 3, 7, 15, 31, 63, 127, 255, 511, 1023, 2047, 4095, 8191, 16383, 32767, 65535, 131071, 262143, 32767, 557055, 2097151, 4194303, 8388607] [[2], [61], [62], [63], [2, 64], [65, 64], [66, 64], [64, 67], [68], [2, 69], [70, 69], [71, 69], [72, 69], [69, 73], [74], [2, 75], [76, 75], [77, 75], [78, 75], [3, 75], [80, 75], [79, 81, 75], [75, 82], [83]] 24 [(61, 4), (62, 2305843009213693952), (63, 4611686018427387904), (64, 9223372036854775808), (65, 18446744073709551620), (66, 55340232221128654848), (67, 92233720368547758080), (68, 166020696663385964544), (69, 295147905179352825856), (70, 590295810358705651716), (71, 1770887431076116955136), (72, 2951479051793528258560), (73, 5312662293228350865408), (74, 10035028776097996079104), (75, 18889465931478580854784), (76, 37778931862957161709572), (77, 113336795588871485128704), (78, 188894659314785808547840), (79, 340010386766614455386112), (80, 37778931862957161709576), (81, 1246704751477586336415744), (82, 3060093480899530098475008), (83, 4873482210321473860534272), (4, 9671406556917033397649408)] mixed (by kernel_rfl) rfl rfl) | (refine W.condA (ht := fun hb => ?_) (hf := fun hb => ?_) <;> (try simp at hb) <;> (try (exfalso; omega))))
  · rw [if_pos hb]
    exact Fin.ret ResL.auto
  · rw [if_neg hb]
    exact Fin.ret ResL.auto
end Go.Proofs.Ytjedkgogjehigaa
end
section
set_option linter.unusedVariables false
set_option linter.unusedSimpArgs false
set_option maxHeartbeats 8000000
set_option linter.unusedSectionVars false
namespace Go.Proofs.Ytjedkgogjehigaa
open Lf Go
attribute [local irreducible] PureOp EffOp Ev RG W Then InBlock Lf.Fin nth App InitE Pick SubE EvL EvD EvP EvR ResL Lf.Lex SubR SubBR EvC FinO FinM ResM ResD FinS val pw digs trimL
theorem right1_ok {op : Int} (h1 : op = 1 ∨ op = 2 ∨ op = 3)
    {d : Nat} {n u : Int} {s : Str} {l : List Exp} (hs : s.length ≤ 9223372036854775807) (hl : l.length ≤ 9223372036854775807) (hlen : (l.length : Int) = opsF op)
    (hdc : (((d + 1 : Nat) : Int)) ≠ 0) (hdb : (d : Int) ≤ 100) (ih : ∀ x ∈ l, ACalls Try.prog 30 [aE x, cI (((d + 1 : Nat) : Int) - 1)] (.pv (cB (rightF d x)))) (cl : ∀ x ∈ l, ACalls Try.prog 53 [aE x, .one (.ptr [.int .i64 ((d + 1 : Nat) : Int)])] (.pv (cB (!rightF d x))))
     : ACalls Try.prog 30 [.agg [.int .i64 op, .int .i64 n, .int .i64 u, .str s, .sl (l.map encX)], cI ((d + 1 : Nat) : Int)] (.pv (cB (decide (n = 0) && decide (u = 0) && nameF s))) := by
  refine ACalls.of_W (qs := [cB (decide (n = 0) && decide (u = 0) && nameF s)]) [4] 104 Try.func30 (by kernel_rfl) rfl rfl rfl fun G => ?_
  refine W.initA (hw := ?_)
  repeat' (first | ((first | apply U_ | (apply Ug_; exact rfl; exact rfl) | (apply Ugq_; exact rfl; exact rfl) | apply Lex.u | (apply Lex.g; exact rfl; exact rfl) | (apply Lex.gq; exact rfl; exact rfl)); (first | (apply Q_litD TYok; (repeat (first | exact EvR.nil | apply EvR.cons Ev.auto)); exact rfl; exact rfl; exact rfl; exact rfl; exact rfl; exact rfl) | exact QX.B TYok | exact QX.Len TYok | exact QX.Idx TYok | exact QX.Fun TYok | exact QCl (operands_ok op) | exact QCl (name_ok s (by omega))); exact rfl) | refine SX.Lit TYok (h := ?_) | refine SX.Box TYok (h := ?_) | refine SC ?_ | (apply S_isnil TYok; exact rfl; exact rfl; exact rfl; exact Ev.auto; intro bn hnil) | (apply RG.gT; exact rfl; exact rfl; (first | assumption | decide)) | (apply RG.gF; exact rfl; exact rfl; (first | assumption | decide | (rw [ne_eq, Bool.not_eq_true]; assumption) | (rw [ne_eq, Bool.not_eq_false]; assumption)); exact rfl) | (apply W.draw2 (id := 1) [0, 1, 3, 7, 15, 31, 7, 71, 199, 511, 1023] [[3], [6], [7], [2, 8], [9, 8], [10, 8], [2, 8], [12, 8], [13, 8], [11, 14, 8], [8, 15]] 11 [(6, 8), (7, 64), (8, 128), (9, 260), (10, 768), (11, 1280), (12, 260), (13, 4352), (14, 8448), (15, 18688), (16, 33024)] mixed (by kernel_rfl) rfl rfl) | (apply W.draw2 (id := 16) [0, 1, 3, 7, 15, 31, 63, 127, 255, 511, 1023, 2047, 4095, 8191, 16383, 32767, 65535, 131071, 262143, 32767, 557055, 2097151, 4194303, 8388607] [[2], [61], [62], [63], [2, 64], [65, 64], [66, 64], [64, 67], [68], [2, 69], [70, 69], [71, 69], [72, 69], [69, 73], [74], [2, 75], [76, 75], [77, 75], [78, 75], [3, 75], [80, 75], [79, 81, 75], [75, 82], [83]] 24 [(61, 4), (62, 2305843009213693952), (63, 4611686018427387904), (64, 9223372036854775808), (65, 18446744073709551620), (66, 55340232221128654848), (67, 92233720368547758080), (68, 166020696663385964544), (69, 295147905179352825856), (70, 590295810358705651716), (71, 1770887431076116955136), (72, 2951479051793528258560), (73, 5312662293228350865408), (74, 10035028776097996079104), (75, 18889465931478580854784), (76, 37778931862957161709572), (77, 113336795588871485128704), (78, 188894659314785808547840), (79, 340010386766614455386112), (80, 37778931862957161709576), (81, 1246704751477586336415744), (82, 3060093480899530098475008), (83, 4873482210321473860534272), (4, 9671406556917033397649408)] mixed (by kernel_rfl) rfl rfl) | (refine W.condA (ht := fun hb => ?_) (hf := fun hb => ?_) <;> (try simp at hb) <;> (try (exfalso; omega))))
  all_goals exact Fin.ret ResL.auto
theorem rightE_a {op : Int} (h0 : ¬ op = 0) (h1 : ¬ (op = 1 ∨ op = 2 ∨ op = 3)) (h2 : ¬ (op = 16 ∨ op = 17 ∨ op = 18))
    {d : Nat} {n u : Int} {s : Str} {l : List Exp} (hs : s.length ≤ 9223372036854775807) (hl : l.length ≤ 9223372036854775807) (hlen : (l.length : Int) = opsF op)
    (hdc : (((d + 1 : Nat) : Int)) ≠ 0) (hdb : (d : Int) ≤ 100) (ih : ∀ x ∈ l, ACalls Try.prog 30 [aE x, cI (((d + 1 : Nat) : Int) - 1)] (.pv (cB (rightF d x)))) (cl : ∀ x ∈ l, ACalls Try.prog 53 [aE x, .one (.ptr [.int .i64 ((d + 1 : Nat) : Int)])] (.pv (cB (!rightF d x))))
    (hC : (decide (n = 0) && decide (u = 0) && decide (s = E0)) = false) : ACalls Try.prog 30 [.agg [.int .i64 op, .int .i64 n, .int .i64 u, .str s, .sl (l.map encX)], cI ((d + 1 : Nat) : Int)] (.pv (cB false)) := by
  refine ACalls.of_W (qs := [cB false]) [4] 104 Try.func30 (by kernel_rfl) rfl rfl rfl fun G => ?_
  refine W.initA (hw := ?_)
  repeat' (first | ((first | apply U_ | (apply Ug_; exact rfl; exact rfl) | (apply Ugq_; exact rfl; exact rfl) | apply Lex.u | (apply Lex.g; exact rfl; exact rfl) | (apply Lex.gq; exact rfl; exact rfl)); (first | (apply Q_litD TYok; (repeat (first | exact EvR.nil | apply EvR.cons Ev.auto)); exact rfl; exact rfl; exact rfl; exact rfl; exact rfl; exact rfl) | exact QX.B TYok | exact QX.Len TYok | exact QX.Idx TYok | exact QX.Fun TYok | exact QCl (operands_ok op)); exact rfl) | refine SX.Lit TYok (h := ?_) | refine SX.Box TYok (h := ?_) | refine SC ?_ | (apply S_isnil TYok; exact rfl; exact rfl; exact rfl; exact Ev.auto; intro bn hnil) | (apply RG.gT; exact rfl; exact rfl; (first | assumption | decide)) | (apply RG.gF; exact rfl; exact rfl; (first | assumption | decide | (rw [ne_eq, Bool.not_eq_true]; assumption) | (rw [ne_eq, Bool.not_eq_false]; assumption)); exact rfl) | (apply W.draw2 (id := 1) [0, 1, 3, 7, 15, 31, 7, 71, 199, 511, 1023] [[3], [6], [7], [2, 8], [9, 8], [10, 8], [2, 8], [12, 8], [13, 8], [11, 14, 8], [8, 15]] 11 [(6, 8), (7, 64), (8, 128), (9, 260), (10, 768), (11, 1280), (12, 260), (13, 4352), (14, 8448), (15, 18688), (16, 33024)] mixed (by kernel_rfl) rfl rfl) | (apply W.draw2 (id := 16) [0, 1, 3, 7, 15, 31, 63, 127, 255, 511, 1023, 2047, 4095, 8191, 16383, 32767, 65535, 131071, 262143, 32767, 557055, 2097151, 4194303, 8388607] [[2], [61], [62], [63], [2, 64], [65, 64], [66, 64], [64, 67], [68], [2, 69], [70, 69], [71, 69], [72, 69], [69, 73], [74], [2, 75], [76, 75], [77, 75], [78, 75], [3, 75], [80, 75], [79, 81, 75], [75, 82], [83]] 24 [(61, 4), (62, 2305843009213693952), (63, 4611686018427387904), (64, 9223372036854775808), (65, 18446744073709551620), (66, 55340232221128654848), (67, 92233720368547758080), (68, 166020696663385964544), (69, 295147905179352825856), (70, 590295810358705651716), (71, 1770887431076116955136), (72, 2951479051793528258560), (73, 5312662293228350865408), (74, 10035028776097996079104), (75, 18889465931478580854784), (76, 37778931862957161709572), (77, 113336795588871485128704), (78, 188894659314785808547840), (79, 340010386766614455386112), (80, 37778931862957161709576), (81, 1246704751477586336415744), (82, 3060093480899530098475008), (83, 4873482210321473860534272), (4, 9671406556917033397649408)] mixed (by kernel_rfl) rfl rfl) | (refine W.condA (ht := fun hb => ?_) (hf := fun hb => ?_) <;> (try simp at hb) <;> (try (exfalso; omega))))
  all_goals exact Fin.ret ResL.auto
theorem rightE_c {op : Int} (h0 : ¬ op = 0) (h1 : ¬ (op = 1 ∨ op = 2 ∨ op = 3)) (h2 : ¬ (op = 16 ∨ op = 17 ∨ op = 18))
    {d : Nat} {n u : Int} {s : Str} {l : List Exp} (hs : s.length ≤ 9223372036854775807) (hl : l.length ≤ 9223372036854775807) (hlen : (l.length : Int) = opsF op)
    (hdc : (((d + 1 : Nat) : Int)) ≠ 0) (hdb : (d : Int) ≤ 100) (ih : ∀ x ∈ l, ACalls Try.prog 30 [aE x, cI (((d + 1 : Nat) : Int) - 1)] (.pv (cB (rightF d x)))) (cl : ∀ x ∈ l, ACalls Try.prog 53 [aE x, .one (.ptr [.int .i64 ((d + 1 : Nat) : Int)])] (.pv (cB (!rightF d x))))
    (hC : (decide (n = 0) && decide (u = 0) && decide (s = E0)) = true) : ACalls Try.prog 30 [.agg [.int .i64 op, .int .i64 n, .int .i64 u, .str s, .sl (l.map encX)], cI ((d + 1 : Nat) : Int)] (.pv (cB (decide (n = 0) && decide (u = 0) && decide (s = E0) && !(l.any fun x => !rightF d x)))) := by
  refine ACalls.of_W (qs := [cB (decide (n = 0) && decide (u = 0) && decide (s = E0) && !(l.any fun x => !rightF d x))]) [4] 104 Try.func30 (by kernel_rfl) rfl rfl rfl fun G => ?_
  refine W.initA (hw := ?_)
  repeat' (first | ((first | apply U_ | (apply Ug_; exact rfl; exact rfl) | (apply Ugq_; exact rfl; exact rfl) | apply Lex.u | (apply Lex.g; exact rfl; exact rfl) | (apply Lex.gq; exact rfl; exact rfl)); (first | (apply Q_litD TYok; (repeat (first | exact EvR.nil | apply EvR.cons Ev.auto)); exact rfl; exact rfl; exact rfl; exact rfl; exact rfl; exact rfl) | exact QX.B TYok | exact QX.Len TYok | exact QX.Idx TYok | exact QX.Fun TYok | exact QCl (operands_ok op) | exact QCd (containsE_ok l 53 [.ptr [.int .i64 ((d + 1 : Nat) : Int)]] (fun x => !rightF d x) hl cl)); exact rfl) | refine SX.Lit TYok (h := ?_) | refine SX.Box TYok (h := ?_) | (refine S_makeFuncF (cs := [.ptr [.int .i64 ((d + 1 : Nat) : Int)]]) (EvC.cons Ev.auto EvC.nil) ?_ ?_; exact rfl) | refine SC ?_ | (apply S_isnil TYok; exact rfl; exact rfl; exact rfl; exact Ev.auto; intro bn hnil) | (apply RG.gT; exact rfl; exact rfl; (first | assumption | decide)) | (apply RG.gF; exact rfl; exact rfl; (first | assumption | decide | (rw [ne_eq, Bool.not_eq_true]; assumption) | (rw [ne_eq, Bool.not_eq_false]; assumption)); exact rfl) | (apply W.draw2 (id := 1) [0, 1, 3, 7, 15, 31, 7, 71, 199, 511, 1023] [[3], [6], [7], [2, 8], [9, 8], [10, 8], [2, 8], [12, 8], [13, 8], [11, 14, 8], [8, 15]] 11 [(6, 8), (7, 64), (8, 128), (9, 260), (10, 768), (11, 1280), (12, 260), (13, 4352), (14, 8448), (15, 18688), (16, 33024)] mixed (by kernel_rfl) rfl rfl) | (apply W.draw2 (id := 16) [0, 1, 3, 7, 15, 31, 63, 127, 255, 511, 1023, 2047, 4095, 8191, 16383, 32767, 65535, 131071, 262143, 32767, 557055, 2097151, 4194303, 8388607] [[2], [61], [62], [63], [2, 64], [65, 64], [66, 64], [64, 67], [68], [2, 69], [70, 69], [71, 69], [72, 69], [69, 73], [74], [2, 75], [76, 75], [77, 75], [78, 75], [3, 75], [80, 75], [79, 81, 75], [75, 82], [83]] 24 [(61, 4), (62, 2305843009213693952), (63, 4611686018427387904), (64, 9223372036854775808), (65, 18446744073709551620), (66, 55340232221128654848), (67, 92233720368547758080), (68, 166020696663385964544), (69, 295147905179352825856), (70, 590295810358705651716), (71, 1770887431076116955136), (72, 2951479051793528258560), (73, 5312662293228350865408), (74, 10035028776097996079104), (75, 18889465931478580854784), (76, 37778931862957161709572), (77, 113336795588871485128704), (78, 188894659314785808547840), (79, 340010386766614455386112), (80, 37778931862957161709576), (81, 1246704751477586336415744), (82, 3060093480899530098475008), (83, 4873482210321473860534272), (4, 9671406556917033397649408)] mixed (by kernel_rfl) rfl rfl) | (refine W.condA (ht := fun hb => ?_) (hf := fun hb => ?_) <;> (try simp at hb) <;> (try (exfalso; omega))))
  all_goals exact Fin.ret ResL.auto
theorem rightN_ok {op : Int} {d : Nat} {n u : Int} {s : Str} {l : List Exp} (hs : s.length ≤ 9223372036854775807) (hl : l.length ≤ 9223372036854775807) (hlen : ¬ (l.length : Int) = opsF op) (hdb : (d : Int) ≤ 101) : ACalls Try.prog 30 [.agg [.int .i64 op, .int .i64 n, .int .i64 u, .str s, .sl (l.map encX)], cI (d : Int)] (.pv (cB false)) := by
  refine ACalls.of_W (qs := [cB false]) [4] 104 Try.func30 (by kernel_rfl) rfl rfl rfl fun G => ?_
  refine W.initA (hw := ?_)
  repeat' (first | ((first | apply U_ | (apply Ug_; exact rfl; exact rfl) | (apply Ugq_; exact rfl; exact rfl) | apply Lex.u | (apply Lex.g; exact rfl; exact rfl) | (apply Lex.gq; exact rfl; exact rfl)); (first | (apply Q_litD TYok; (repeat (first | exact EvR.nil | apply EvR.cons Ev.auto)); exact rfl; exact rfl; exact rfl; exact rfl; exact rfl; exact rfl) | exact QX.B TYok | exact QX.Len TYok | exact QX.Idx TYok | exact QX.Fun TYok | exact QCl (operands_ok op)); exact rfl) | refine SX.Lit TYok (h := ?_) | refine SX.Box TYok (h := ?_) | refine SC ?_ | (apply S_isnil TYok; exact rfl; exact rfl; exact rfl; exact Ev.auto; intro bn hnil) | (apply RG.gT; exact rfl; exact rfl; (first | assumption | decide)) | (apply RG.gF; exact rfl; exact rfl; (first | assumption | decide | (rw [ne_eq, Bool.not_eq_true]; assumption) | (rw [ne_eq, Bool.not_eq_false]; assumption)); exact rfl) | (apply W.draw2 (id := 1) [0, 1, 3, 7, 15, 31, 7, 71, 199, 511, 1023] [[3], [6], [7], [2, 8], [9, 8], [10, 8], [2, 8], [12, 8], [13, 8], [11, 14, 8], [8, 15]] 11 [(6, 8), (7, 64), (8, 128), (9, 260), (10, 768), (11, 1280), (12, 260), (13, 4352), (14, 8448), (15, 18688), (16, 33024)] mixed (by kernel_rfl) rfl rfl) | (apply W.draw2 (id := 16) [0, 1, 3, 7, 15, 31, 63, 127, 255, 511, 1023, 2047, 4095, 8191, 16383, 32767, 65535, 131071, 262143, 32767, 557055, 2097151, 4194303, 8388607] [[2], [61], [62], [63], [2, 64], [65, 64], [66, 64], [64, 67], [68], [2, 69], [70, 69], [71, 69], [72, 69], [69, 73], [74], [2, 75], [76, 75], [77, 75], [78, 75], [3, 75], [80, 75], [79, 81, 75], [75, 82], [83]] 24 [(61, 4), (62, 2305843009213693952), (63, 4611686018427387904), (64, 9223372036854775808), (65, 18446744073709551620), (66, 55340232221128654848), (67, 92233720368547758080), (68, 166020696663385964544), (69, 295147905179352825856), (70, 590295810358705651716), (71, 1770887431076116955136), (72, 2951479051793528258560), (73, 5312662293228350865408), (74, 10035028776097996079104), (75, 18889465931478580854784), (76, 37778931862957161709572), (77, 113336795588871485128704), (78, 188894659314785808547840), (79, 340010386766614455386112), (80, 37778931862957161709576), (81, 1246704751477586336415744), (82, 3060093480899530098475008), (83, 4873482210321473860534272), (4, 9671406556917033397649408)] mixed (by kernel_rfl) rfl rfl) | (refine W.condA (ht := fun hb => ?_) (hf := fun hb => ?_) <;> (try simp at hb) <;> (try (exfalso; omega))))
  all_goals exact Fin.ret ResL.auto
theorem right00_ok {op : Int} {n u : Int} {s : Str} {l : List Exp} (hs : s.length ≤ 9223372036854775807) (hl : l.length ≤ 9223372036854775807) : ACalls Try.prog 30 [.agg [.int .i64 op, .int .i64 n, .int .i64 u, .str s, .sl (l.map encX)], cI ((0 : Nat) : Int)] (.pv (cB false)) := by
  refine ACalls.of_W (qs := [cB false]) [4] 104 Try.func30 (by kernel_rfl) rfl rfl rfl fun G => ?_
  refine W.initA (hw := ?_)
  repeat' (first | ((first | apply U_ | (apply Ug_; exact rfl; exact rfl) | (apply Ugq_; exact rfl; exact rfl) | apply Lex.u | (apply Lex.g; exact rfl; exact rfl) | (apply Lex.gq; exact rfl; exact rfl)); (first | (apply Q_litD TYok; (repeat (first | exact EvR.nil | apply EvR.cons Ev.auto)); exact rfl; exact rfl; exact rfl; exact rfl; exact rfl; exact rfl) | exact QX.B TYok | exact QX.Len TYok | exact QX.Idx TYok | exact QX.Fun TYok | exact QCl (operands_ok op)); exact rfl) | refine SX.Lit TYok (h := ?_) | refine SX.Box TYok (h := ?_) | refine SC ?_ | (apply S_isnil TYok; exact rfl; exact rfl; exact rfl; exact Ev.auto; intro bn hnil) | (apply RG.gT; exact rfl; exact rfl; (first | assumption | decide)) | (apply RG.gF; exact rfl; exact rfl; (first | assumption | decide | (rw [ne_eq, Bool.not_eq_true]; assumption) | (rw [ne_eq, Bool.not_eq_false]; assumption)); exact rfl) | (apply W.draw2 (id := 1) [0, 1, 3, 7, 15, 31, 7, 71, 199, 511, 1023] [[3], [6], [7], [2, 8], [9, 8], [10, 8], [2, 8], [12, 8], [13, 8], [11, 14, 8], [8, 15]] 11 [(6, 8), (7, 64), (8, 128), (9, 260), (10, 768), (11, 1280), (12, 260), (13, 4352), (14, 8448), (15, 18688), (16, 33024)] mixed (by kernel_rfl) rfl rfl) | (apply W.draw2 (id := 16) [0, 1, 3, 7, 15, 31, 63, 127, 255, 511, 1023, 2047, 4095, 8191, 16383, 32767, 65535, 131071, 262143, 32767, 557055, 2097151, 4194303, 8388607] [[2], [61], [62], [63], [2, 64], [65, 64], [66, 64], [64, 67], [68], [2, 69], [70, 69], [71, 69], [72, 69], [69, 73], [74], [2, 75], [76, 75], [77, 75], [78, 75], [3, 75], [80, 75], [79, 81, 75], [75, 82], [83]] 24 [(61, 4), (62, 2305843009213693952), (63, 4611686018427387904), (64, 9223372036854775808), (65, 18446744073709551620), (66, 55340232221128654848), (67, 92233720368547758080), (68, 166020696663385964544), (69, 295147905179352825856), (70, 590295810358705651716), (71, 1770887431076116955136), (72, 2951479051793528258560), (73, 5312662293228350865408), (74, 10035028776097996079104), (75, 18889465931478580854784), (76, 37778931862957161709572), (77, 113336795588871485128704), (78, 188894659314785808547840), (79, 340010386766614455386112), (80, 37778931862957161709576), (81, 1246704751477586336415744), (82, 3060093480899530098475008), (83, 4873482210321473860534272), (4, 9671406556917033397649408)] mixed (by kernel_rfl) rfl rfl) | (refine W.condA (ht := fun hb => ?_) (hf := fun hb => ?_) <;> (try simp at hb) <;> (try (exfalso; omega))))
  all_goals exact Fin.ret ResL.auto
theorem right1c_ok (d : Nat) (x : Exp) (ih : ACalls Try.prog 30 [aE x, cI (((d + 1 : Nat) : Int) - 1)] (.pv (cB (rightF d x)))) (hdb : (d : Int) ≤ 100) : ACalls Try.prog 53 [aE x, .one (.ptr [.int .i64 ((d + 1 : Nat) : Int)])] (.pv (cB (!rightF d x))) := by
  refine ACalls.of_W (qs := [cB (!rightF d x)]) [3] 9 Try.func53 (by kernel_rfl) rfl rfl rfl fun G => ?_
  refine W.initA (hw := ?_)
  repeat' (first | ((first | apply U_ | apply Lex.u | (apply Lex.g; exact rfl; exact rfl) | (apply Lex.gq; exact rfl; exact rfl)); (first | (apply Q_litD TYok; (repeat (first | exact EvR.nil | apply EvR.cons Ev.auto)); exact rfl; exact rfl; exact rfl; exact rfl; exact rfl; exact rfl) | exact QX.B TYok | exact QCl (ih)); exact rfl) | refine SX.Box TYok (h := ?_) | refine SC ?_ | (refine W.condA (ht := fun hb => ?_) (hf := fun hb => ?_) <;> (try simp at hb) <;> (try (exfalso; omega))))
  exact Fin.ret ResL.auto
end Go.Proofs.Ytjedkgogjehigaa
end
section
set_option linter.unusedVariables false
set_option linter.unusedSimpArgs false
set_option maxHeartbeats 8000000
set_option linter.unusedSectionVars false
namespace Go.Proofs.Ytjedkgogjehigaa
open Lf Go
attribute [local irreducible] PureOp EffOp Ev RG W Then InBlock Lf.Fin nth App InitE Pick SubE EvL EvD EvP EvR ResL Lf.Lex SubR SubBR EvC FinO FinM ResM ResD FinS val pw digs trimL
theorem right16_all
    {d : Nat} {n u : Int} {s : Str} {l : List Exp} (hs : s.length ≤ 9223372036854775807) (hl : l.length ≤ 9223372036854775807) (hlen : (l.length : Int) = opsF 16)
    (hdc : (((d + 1 : Nat) : Int)) ≠ 0) (hdb : (d : Int) ≤ 100) (ih : ∀ x ∈ l, ACalls Try.prog 30 [aE x, cI (((d + 1 : Nat) : Int) - 1)] (.pv (cB (rightF d x)))) : ACalls Try.prog 30 [.agg [.int .i64 16, .int .i64 n, .int .i64 u, .str s, .sl (l.map encX)], cI ((d + 1 : Nat) : Int)] (.pv (cB (decide (u = 0) && decide (s = E0) && [n].all (inF 1 1000) && rightF d (nth l 0)))) := by
  have hl1 : 0 < l.length := by
    have : opsF 16 = 1 := by decide
    omega
  have h1 := in_ok 1 1000 [n] (by simp)
  have h2 := ih (nth l 0) (nth_mem hl1)
  generalize [n].all (inF 1 1000) = b1 at *
  generalize rightF d (nth l 0) = b2 at *
  refine ACalls.of_W (qs := [cB (decide (u = 0) && decide (s = E0) && b1 && b2)]) [4] 104 Try.func30 (by kernel_rfl) rfl rfl rfl fun G => ?_
  refine W.initA (hw := ?_)
  repeat' (first | ((first | apply U_ | (apply Ug_; exact rfl; exact rfl) | (apply Ugq_; exact rfl; exact rfl) | apply Lex.u | (apply Lex.g; exact rfl; exact rfl) | (apply Lex.gq; exact rfl; exact rfl)); (first | (apply Q_litD TYok; (repeat (first | exact EvR.nil | apply EvR.cons Ev.auto)); exact rfl; exact rfl; exact rfl; exact rfl; exact rfl; exact rfl) | (apply Q_litDp TYok; (intro hp; apply EvR.cons Ev.auto; (repeat (first | exact EvR.nil | apply EvR.cons Ev.auto))); exact rfl; exact rfl; exact rfl; exact rfl; exact rfl; exact rfl) | exact QX.B TYok | exact QX.Len TYok | exact QX.Idx TYok | exact QX.Fun TYok | exact QCl (operands_ok 16) | exact QCd (h1) | exact QCd (h2)); exact rfl) | refine SX.Lit TYok (h := ?_) | refine SX.Box TYok (h := ?_) | refine SC ?_ | (apply S_isnil TYok; exact rfl; exact rfl; exact rfl; exact Ev.auto; intro bn hnil) | (apply RG.gT; exact rfl; exact rfl; (first | assumption | decide)) | (apply RG.gF; exact rfl; exact rfl; (first | assumption | decide | (rw [ne_eq, Bool.not_eq_true]; assumption) | (rw [ne_eq, Bool.not_eq_false]; assumption)); exact rfl) | (apply W.draw2 (id := 1) [0, 1, 3, 7, 15, 31, 7, 71, 199, 511, 1023] [[3], [6], [7], [2, 8], [9, 8], [10, 8], [2, 8], [12, 8], [13, 8], [11, 14, 8], [8, 15]] 11 [(6, 8), (7, 64), (8, 128), (9, 260), (10, 768), (11, 1280), (12, 260), (13, 4352), (14, 8448), (15, 18688), (16, 33024)] mixed (by kernel_rfl) rfl rfl) | (apply W.draw2 (id := 16) [0, 1, 3, 7, 15, 31, 63, 127, 255, 511, 1023, 2047, 4095, 8191, 16383, 32767, 65535, 131071, 262143, 32767, 557055, 2097151, 4194303, 8388607] [[2], [61], [62], [63], [2, 64], [65, 64], [66, 64], [64, 67], [68], [2, 69], [70, 69], [71, 69], [72, 69], [69, 73], [74], [2, 75], [76, 75], [77, 75], [78, 75], [3, 75], [80, 75], [79, 81, 75], [75, 82], [83]] 24 [(61, 4), (62, 2305843009213693952), (63, 4611686018427387904), (64, 9223372036854775808), (65, 18446744073709551620), (66, 55340232221128654848), (67, 92233720368547758080), (68, 166020696663385964544), (69, 295147905179352825856), (70, 590295810358705651716), (71, 1770887431076116955136), (72, 2951479051793528258560), (73, 5312662293228350865408), (74, 10035028776097996079104), (75, 18889465931478580854784), (76, 37778931862957161709572), (77, 113336795588871485128704), (78, 188894659314785808547840), (79, 340010386766614455386112), (80, 37778931862957161709576), (81, 1246704751477586336415744), (82, 3060093480899530098475008), (83, 4873482210321473860534272), (4, 9671406556917033397649408)] mixed (by kernel_rfl) rfl rfl) | (refine W.condA (ht := fun hb => ?_) (hf := fun hb => ?_) <;> (try simp at hb) <;> (try (exfalso; omega))))
  all_goals exact Fin.ret ResL.auto
theorem right16_a
    {d : Nat} {n u : Int} {s : Str} {l : List Exp} (hs : s.length ≤ 9223372036854775807) (hl : l.length ≤ 9223372036854775807) (hlen : (l.length : Int) = opsF 16)
    (hdc : (((d + 1 : Nat) : Int)) ≠ 0) (hdb : (d : Int) ≤ 100) (ih : ∀ x ∈ l, ACalls Try.prog 30 [aE x, cI (((d + 1 : Nat) : Int) - 1)] (.pv (cB (rightF d x)))) (cl : ∀ x ∈ l, ACalls Try.prog 53 [aE x, .one (.ptr [.int .i64 ((d + 1 : Nat) : Int)])] (.pv (cB (!rightF d x))))
    (hA : (decide (u = 0) && decide (s = E0)) = false) : ACalls Try.prog 30 [.agg [.int .i64 16, .int .i64 n, .int .i64 u, .str s, .sl (l.map encX)], cI ((d + 1 : Nat) : Int)] (.pv (cB false)) := by
  have := right16_all hs hl hlen hdc hdb ih (n := n) (u := u)
  rw [hA, Bool.false_and, Bool.false_and] at this
  exact this
theorem right16_b
    {d : Nat} {n u : Int} {s : Str} {l : List Exp} (hs : s.length ≤ 9223372036854775807) (hl : l.length ≤ 9223372036854775807) (hlen : (l.length : Int) = opsF 16)
    (hdc : (((d + 1 : Nat) : Int)) ≠ 0) (hdb : (d : Int) ≤ 100) (ih : ∀ x ∈ l, ACalls Try.prog 30 [aE x, cI (((d + 1 : Nat) : Int) - 1)] (.pv (cB (rightF d x)))) (cl : ∀ x ∈ l, ACalls Try.prog 53 [aE x, .one (.ptr [.int .i64 ((d + 1 : Nat) : Int)])] (.pv (cB (!rightF d x))))
    (hA : (decide (u = 0) && decide (s = E0)) = true) (hB : [n].all (inF 1 1000) = false) : ACalls Try.prog 30 [.agg [.int .i64 16, .int .i64 n, .int .i64 u, .str s, .sl (l.map encX)], cI ((d + 1 : Nat) : Int)] (.pv (cB false)) := by
  have := right16_all hs hl hlen hdc hdb ih (n := n) (u := u)
  rw [hA, hB, Bool.true_and, Bool.false_and] at this
  exact this
theorem right16_c
    {d : Nat} {n u : Int} {s : Str} {l : List Exp} (hs : s.length ≤ 9223372036854775807) (hl : l.length ≤ 9223372036854775807) (hlen : (l.length : Int) = opsF 16)
    (hdc : (((d + 1 : Nat) : Int)) ≠ 0) (hdb : (d : Int) ≤ 100) (ih : ∀ x ∈ l, ACalls Try.prog 30 [aE x, cI (((d + 1 : Nat) : Int) - 1)] (.pv (cB (rightF d x)))) (cl : ∀ x ∈ l, ACalls Try.prog 53 [aE x, .one (.ptr [.int .i64 ((d + 1 : Nat) : Int)])] (.pv (cB (!rightF d x))))
    (hl1 : 0 < l.length) (hA : (decide (u = 0) && decide (s = E0)) = true) (hB : [n].all (inF 1 1000) = true) : ACalls Try.prog 30 [.agg [.int .i64 16, .int .i64 n, .int .i64 u, .str s, .sl (l.map encX)], cI ((d + 1 : Nat) : Int)] (.pv (cB (decide (u = 0) && decide (s = E0) && [n].all (inF 1 1000) && rightF d (nth l 0)))) :=
  right16_all hs hl hlen hdc hdb ih
end Go.Proofs.Ytjedkgogjehigaa
end
section
set_option linter.unusedVariables false
set_option linter.unusedSimpArgs false
set_option maxHeartbeats 8000000
set_option linter.unusedSectionVars false
namespace Go.Proofs.Ytjedkgogjehigaa
open Lf Go
attribute [local irreducible] PureOp EffOp Ev RG W Then InBlock Lf.Fin nth App InitE Pick SubE EvL EvD EvP EvR ResL Lf.Lex SubR SubBR EvC FinO FinM ResM ResD FinS val pw digs trimL
theorem right17_all
    {d : Nat} {n u : Int} {s : Str} {l : List Exp} (hs : s.length ≤ 9223372036854775807) (hl : l.length ≤ 9223372036854775807) (hlen : (l.length : Int) = opsF 17)
    (hdc : (((d + 1 : Nat) : Int)) ≠ 0) (hdb : (d : Int) ≤ 100) (ih : ∀ x ∈ l, ACalls Try.prog 30 [aE x, cI (((d + 1 : Nat) : Int) - 1)] (.pv (cB (rightF d x)))) : ACalls Try.prog 30 [.agg [.int .i64 17, .int .i64 n, .int .i64 u, .str s, .sl (l.map encX)], cI ((d + 1 : Nat) : Int)] (.pv (cB (decide (u = 0) && decide (s = E0) && [n].all (inF 1 1000) && rightF d (nth l 0)))) := by
  have hl1 : 0 < l.length := by
    have : opsF 17 = 1 := by decide
    omega
  have h1 := in_ok 1 1000 [n] (by simp)
  have h2 := ih (nth l 0) (nth_mem hl1)
  generalize [n].all (inF 1 1000) = b1 at *
  generalize rightF d (nth l 0) = b2 at *
  refine ACalls.of_W (qs := [cB (decide (u = 0) && decide (s = E0) && b1 && b2)]) [4] 104 Try.func30 (by kernel_rfl) rfl rfl rfl fun G => ?_
  refine W.initA (hw := ?_)
  repeat' (first | ((first | apply U_ | (apply Ug_; exact rfl; exact rfl) | (apply Ugq_; exact rfl; exact rfl) | apply Lex.u | (apply Lex.g; exact rfl; exact rfl) | (apply Lex.gq; exact rfl; exact rfl)); (first | (apply Q_litD TYok; (repeat (first | exact EvR.nil | apply EvR.cons Ev.auto)); exact rfl; exact rfl; exact rfl; exact rfl; exact rfl; exact rfl) | (apply Q_litDp TYok; (intro hp; apply EvR.cons Ev.auto; (repeat (first | exact EvR.nil | apply EvR.cons Ev.auto))); exact rfl; exact rfl; exact rfl; exact rfl; exact rfl; exact rfl) | exact QX.B TYok | exact QX.Len TYok | exact QX.Idx TYok | exact QX.Fun TYok | exact QCl (operands_ok 17) | exact QCd (h1) | exact QCd (h2)); exact rfl) | refine SX.Lit TYok (h := ?_) | refine SX.Box TYok (h := ?_) | refine SC ?_ | (apply S_isnil TYok; exact rfl; exact rfl; exact rfl; exact Ev.auto; intro bn hnil) | (apply RG.gT; exact rfl; exact rfl; (first | assumption | decide)) | (apply RG.gF; exact rfl; exact rfl; (first | assumption | decide | (rw [ne_eq, Bool.not_eq_true]; assumption) | (rw [ne_eq, Bool.not_eq_false]; assumption)); exact rfl) | (apply W.draw2 (id := 1) [0, 1, 3, 7, 15, 31, 7, 71, 199, 511, 1023] [[3], [6], [7], [2, 8], [9, 8], [10, 8], [2, 8], [12, 8], [13, 8], [11, 14, 8], [8, 15]] 11 [(6, 8), (7, 64), (8, 128), (9, 260), (10, 768), (11, 1280), (12, 260), (13, 4352), (14, 8448), (15, 18688), (16, 33024)] mixed (by kernel_rfl) rfl rfl) | (apply W.draw2 (id := 16) [0, 1, 3, 7, 15, 31, 63, 127, 255, 511, 1023, 2047, 4095, 8191, 16383, 32767, 65535, 131071, 262143, 32767, 557055, 2097151, 4194303, 8388607] [[2], [61], [62], [63], [2, 64], [65, 64], [66, 64], [64, 67], [68], [2, 69], [70, 69], [71, 69], [72, 69], [69, 73], [74], [2, 75], [76, 75], [77, 75], [78, 75], [3, 75], [80, 75], [79, 81, 75], [75, 82], [83]] 24 [(61, 4), (62, 2305843009213693952), (63, 4611686018427387904), (64, 9223372036854775808), (65, 18446744073709551620), (66, 55340232221128654848), (67, 92233720368547758080), (68, 166020696663385964544), (69, 295147905179352825856), (70, 590295810358705651716), (71, 1770887431076116955136), (72, 2951479051793528258560), (73, 5312662293228350865408), (74, 10035028776097996079104), (75, 18889465931478580854784), (76, 37778931862957161709572), (77, 113336795588871485128704), (78, 188894659314785808547840), (79, 340010386766614455386112), (80, 37778931862957161709576), (81, 1246704751477586336415744), (82, 3060093480899530098475008), (83, 4873482210321473860534272), (4, 9671406556917033397649408)] mixed (by kernel_rfl) rfl rfl) | (refine W.condA (ht := fun hb => ?_) (hf := fun hb => ?_) <;> (try simp at hb) <;> (try (exfalso; omega))))
  all_goals exact Fin.ret ResL.auto
theorem right17_a
    {d : Nat} {n u : Int} {s : Str} {l : List Exp} (hs : s.length ≤ 9223372036854775807) (hl : l.length ≤ 9223372036854775807) (hlen : (l.length : Int) = opsF 17)
    (hdc : (((d + 1 : Nat) : Int)) ≠ 0) (hdb : (d : Int) ≤ 100) (ih : ∀ x ∈ l, ACalls Try.prog 30 [aE x, cI (((d + 1 : Nat) : Int) - 1)] (.pv (cB (rightF d x)))) (cl : ∀ x ∈ l, ACalls Try.prog 53 [aE x, .one (.ptr [.int .i64 ((d + 1 : Nat) : Int)])] (.pv (cB (!rightF d x))))
    (hA : (decide (u = 0) && decide (s = E0)) = false) : ACalls Try.prog 30 [.agg [.int .i64 17, .int .i64 n, .int .i64 u, .str s, .sl (l.map encX)], cI ((d + 1 : Nat) : Int)] (.pv (cB false)) := by
  have := right17_all hs hl hlen hdc hdb ih (n := n) (u := u)
  rw [hA, Bool.false_and, Bool.false_and] at this
  exact this
theorem right17_b
    {d : Nat} {n u : Int} {s : Str} {l : List Exp} (hs : s.length ≤ 9223372036854775807) (hl : l.length ≤ 9223372036854775807) (hlen : (l.length : Int) = opsF 17)
    (hdc : (((d + 1 : Nat) : Int)) ≠ 0) (hdb : (d : Int) ≤ 100) (ih : ∀ x ∈ l, ACalls Try.prog 30 [aE x, cI (((d + 1 : Nat) : Int) - 1)] (.pv (cB (rightF d x)))) (cl : ∀ x ∈ l, ACalls Try.prog 53 [aE x, .one (.ptr [.int .i64 ((d + 1 : Nat) : Int)])] (.pv (cB (!rightF d x))))
    (hA : (decide (u = 0) && decide (s = E0)) = true) (hB : [n].all (inF 1 1000) = false) : ACalls Try.prog 30 [.agg [.int .i64 17, .int .i64 n, .int .i64 u, .str s, .sl (l.map encX)], cI ((d + 1 : Nat) : Int)] (.pv (cB false)) := by
  have := right17_all hs hl hlen hdc hdb ih (n := n) (u := u)
  rw [hA, hB, Bool.true_and, Bool.false_and] at this
  exact this
theorem right17_c
    {d : Nat} {n u : Int} {s : Str} {l : List Exp} (hs : s.length ≤ 9223372036854775807) (hl : l.length ≤ 9223372036854775807) (hlen : (l.length : Int) = opsF 17)
    (hdc : (((d + 1 : Nat) : Int)) ≠ 0) (hdb : (d : Int) ≤ 100) (ih : ∀ x ∈ l, ACalls Try.prog 30 [aE x, cI (((d + 1 : Nat) : Int) - 1)] (.pv (cB (rightF d x)))) (cl : ∀ x ∈ l, ACalls Try.prog 53 [aE x, .one (.ptr [.int .i64 ((d + 1 : Nat) : Int)])] (.pv (cB (!rightF d x))))
    (hl1 : 0 < l.length) (hA : (decide (u = 0) && decide (s = E0)) = true) (hB : [n].all (inF 1 1000) = true) : ACalls Try.prog 30 [.agg [.int .i64 17, .int .i64 n, .int .i64 u, .str s, .sl (l.map encX)], cI ((d + 1 : Nat) : Int)] (.pv (cB (decide (u = 0) && decide (s = E0) && [n].all (inF 1 1000) && rightF d (nth l 0)))) :=
  right17_all hs hl hlen hdc hdb ih
end Go.Proofs.Ytjedkgogjehigaa
end
section
set_option linter.unusedVariables false
set_option linter.unusedSimpArgs false
set_option maxHeartbeats 8000000
set_option linter.unusedSectionVars false
namespace Go.Proofs.Ytjedkgogjehigaa
open Lf Go
attribute [local irreducible] PureOp EffOp Ev RG W Then InBlock Lf.Fin nth App InitE Pick SubE EvL EvD EvP EvR ResL Lf.Lex SubR SubBR EvC FinO FinM ResM ResD FinS val pw digs trimL
theorem right18_all
    {d : Nat} {n u : Int} {s : Str} {l : List Exp} (hs : s.length ≤ 9223372036854775807) (hl : l.length ≤ 9223372036854775807) (hlen : (l.length : Int) = opsF 18)
    (hdc : (((d + 1 : Nat) : Int)) ≠ 0) (hdb : (d : Int) ≤ 100) (ih : ∀ x ∈ l, ACalls Try.prog 30 [aE x, cI (((d + 1 : Nat) : Int) - 1)] (.pv (cB (rightF d x)))) : ACalls Try.prog 30 [.agg [.int .i64 18, .int .i64 n, .int .i64 u, .str s, .sl (l.map encX)], cI ((d + 1 : Nat) : Int)] (.pv (cB (decide (u = 0) && decide (s = E0) && [n].all (inF 1 1000) && rightF d (nth l 0)))) := by
  have hl1 : 0 < l.length := by
    have : opsF 18 = 1 := by decide
    omega
  have h1 := in_ok 1 1000 [n] (by simp)
  have h2 := ih (nth l 0) (nth_mem hl1)
  generalize [n].all (inF 1 1000) = b1 at *
  generalize rightF d (nth l 0) = b2 at *
  refine ACalls.of_W (qs := [cB (decide (u = 0) && decide (s = E0) && b1 && b2)]) [4] 104 Try.func30 (by kernel_rfl) rfl rfl rfl fun G => ?_
  refine W.initA (hw := ?_)
  repeat' (first | ((first | apply U_ | (apply Ug_; exact rfl; exact rfl) | (apply Ugq_; exact rfl; exact rfl) | apply Lex.u | (apply Lex.g; exact rfl; exact rfl) | (apply Lex.gq; exact rfl; exact rfl)); (first | (apply Q_litD TYok; (repeat (first | exact EvR.nil | apply EvR.cons Ev.auto)); exact rfl; exact rfl; exact rfl; exact rfl; exact rfl; exact rfl) | (apply Q_litDp TYok; (intro hp; apply EvR.cons Ev.auto; (repeat (first | exact EvR.nil | apply EvR.cons Ev.auto))); exact rfl; exact rfl; exact rfl; exact rfl; exact rfl; exact rfl) | exact QX.B TYok | exact QX.Len TYok | exact QX.Idx TYok | exact QX.Fun TYok | exact QCl (operands_ok 18) | exact QCd (h1) | exact QCd (h2)); exact rfl) | refine SX.Lit TYok (h := ?_) | refine SX.Box TYok (h := ?_) | refine SC ?_ | (apply S_isnil TYok; exact rfl; exact rfl; exact rfl; exact Ev.auto; intro bn hnil) | (apply RG.gT; exact rfl; exact rfl; (first | assumption | decide)) | (apply RG.gF; exact rfl; exact rfl; (first | assumption | decide | (rw [ne_eq, Bool.not_eq_true]; assumption) | (rw [ne_eq, Bool.not_eq_false]; assumption)); exact rfl) | (apply W.draw2 (id := 1) [0, 1, 3, 7, 15, 31, 7, 71, 199, 511, 1023] [[3], [6], [7], [2, 8], [9, 8], [10, 8], [2, 8], [12, 8], [13, 8], [11, 14, 8], [8, 15]] 11 [(6, 8), (7, 64), (8, 128), (9, 260), (10, 768), (11, 1280), (12, 260), (13, 4352), (14, 8448), (15, 18688), (16, 33024)] mixed (by kernel_rfl) rfl rfl) | (apply W.draw2 (id := 16) [0, 1, 3, 7, 15, 31, 63, 127, 255, 511, 1023, 2047, 4095, 8191, 16383, 32767, 65535, 131071, 262143, 32767, 557055, 2097151, 4194303, 8388607] [[2], [61], [62], [63], [2, 64], [65, 64], [66, 64], [64, 67], [68], [2, 69], [70, 69], [71, 69], [72, 69], [69, 73], [74], [2, 75], [76, 75], [77, 75], [78, 75], [3, 75], [80, 75], [79, 81, 75], [75, 82], [83]] 24 [(61, 4), (62, 2305843009213693952), (63, 4611686018427387904), (64, 9223372036854775808), (65, 18446744073709551620), (66, 55340232221128654848), (67, 92233720368547758080), (68, 166020696663385964544), (69, 295147905179352825856), (70, 590295810358705651716), (71, 1770887431076116955136), (72, 2951479051793528258560), (73, 5312662293228350865408), (74, 10035028776097996079104), (75, 18889465931478580854784), (76, 37778931862957161709572), (77, 113336795588871485128704), (78, 188894659314785808547840), (79, 340010386766614455386112), (80, 37778931862957161709576), (81, 1246704751477586336415744), (82, 3060093480899530098475008), (83, 4873482210321473860534272), (4, 9671406556917033397649408)] mixed (by kernel_rfl) rfl rfl) | (refine W.condA (ht := fun hb => ?_) (hf := fun hb => ?_) <;> (try simp at hb) <;> (try (exfalso; omega))))
  all_goals exact Fin.ret ResL.auto
theorem right18_a
    {d : Nat} {n u : Int} {s : Str} {l : List Exp} (hs : s.length ≤ 9223372036854775807) (hl : l.length ≤ 9223372036854775807) (hlen : (l.length : Int) = opsF 18)
    (hdc : (((d + 1 : Nat) : Int)) ≠ 0) (hdb : (d : Int) ≤ 100) (ih : ∀ x ∈ l, ACalls Try.prog 30 [aE x, cI (((d + 1 : Nat) : Int) - 1)] (.pv (cB (rightF d x)))) (cl : ∀ x ∈ l, ACalls Try.prog 53 [aE x, .one (.ptr [.int .i64 ((d + 1 : Nat) : Int)])] (.pv (cB (!rightF d x))))
    (hA : (decide (u = 0) && decide (s = E0)) = false) : ACalls Try.prog 30 [.agg [.int .i64 18, .int .i64 n, .int .i64 u, .str s, .sl (l.map encX)], cI ((d + 1 : Nat) : Int)] (.pv (cB false)) := by
  have := right18_all hs hl hlen hdc hdb ih (n := n) (u := u)
  rw [hA, Bool.false_and, Bool.false_and] at this
  exact this
theorem right18_b
    {d : Nat} {n u : Int} {s : Str} {l : List Exp} (hs : s.length ≤ 9223372036854775807) (hl : l.length ≤ 9223372036854775807) (hlen : (l.length : Int) = opsF 18)
    (hdc : (((d + 1 : Nat) : Int)) ≠ 0) (hdb : (d : Int) ≤ 100) (ih : ∀ x ∈ l, ACalls Try.prog 30 [aE x, cI (((d + 1 : Nat) : Int) - 1)] (.pv (cB (rightF d x)))) (cl : ∀ x ∈ l, ACalls Try.prog 53 [aE x, .one (.ptr [.int .i64 ((d + 1 : Nat) : Int)])] (.pv (cB (!rightF d x))))
    (hA : (decide (u = 0) && decide (s = E0)) = true) (hB : [n].all (inF 1 1000) = false) : ACalls Try.prog 30 [.agg [.int .i64 18, .int .i64 n, .int .i64 u, .str s, .sl (l.map encX)], cI ((d + 1 : Nat) : Int)] (.pv (cB false)) := by
  have := right18_all hs hl hlen hdc hdb ih (n := n) (u := u)
  rw [hA, hB, Bool.true_and, Bool.false_and] at this
  exact this
theorem right18_c
    {d : Nat} {n u : Int} {s : Str} {l : List Exp} (hs : s.length ≤ 9223372036854775807) (hl : l.length ≤ 9223372036854775807) (hlen : (l.length : Int) = opsF 18)
    (hdc : (((d + 1 : Nat) : Int)) ≠ 0) (hdb : (d : Int) ≤ 100) (ih : ∀ x ∈ l, ACalls Try.prog 30 [aE x, cI (((d + 1 : Nat) : Int) - 1)] (.pv (cB (rightF d x)))) (cl : ∀ x ∈ l, ACalls Try.prog 53 [aE x, .one (.ptr [.int .i64 ((d + 1 : Nat) : Int)])] (.pv (cB (!rightF d x))))
    (hl1 : 0 < l.length) (hA : (decide (u = 0) && decide (s = E0)) = true) (hB : [n].all (inF 1 1000) = true) : ACalls Try.prog 30 [.agg [.int .i64 18, .int .i64 n, .int .i64 u, .str s, .sl (l.map encX)], cI ((d + 1 : Nat) : Int)] (.pv (cB (decide (u = 0) && decide (s = E0) && [n].all (inF 1 1000) && rightF d (nth l 0)))) :=
  right18_all hs hl hlen hdc hdb ih
end Go.Proofs.Ytjedkgogjehigaa
end
section
set_option linter.unusedVariables false
set_option linter.unusedSimpArgs false
set_option maxHeartbeats 8000000
set_option linter.unusedSectionVars false
namespace Go.Proofs.Ytjedkgogjehigaa
open Lf Go
attribute [local irreducible] PureOp EffOp Ev RG W Then InBlock Lf.Fin nth App InitE Pick SubE EvL EvD EvP EvR ResL Lf.Lex SubR SubBR EvC FinO FinM ResM ResD FinS val pw digs trimL
theorem rightE_ok : ∀ (d : Nat) (e : Exp), d ≤ 100 → OkE e → ACalls Try.prog 30 [aE e, cI (d : Int)] (.pv (cB (rightF d e)))
  | 0, .mk op n u s l, _, he => by
    cases he with
    | mk hs hl h => rw [aE_mk, rightF]; exact right00_ok hs hl
  | d + 1, .mk op n u s l, hd, he => by
    cases he with
    | mk hs hl h =>
    have hdb : (d : Int) ≤ 100 := by omega
    have hdc : (((d + 1 : Nat) : Int)) ≠ 0 := by omega
    have ih : ∀ x ∈ l, ACalls Try.prog 30 [aE x, cI (((d + 1 : Nat) : Int) - 1)] (.pv (cB (rightF d x))) := by
      intro x hx
      rw [show (((d + 1 : Nat) : Int) - 1) = (d : Int) by omega]
      exact rightE_ok d x (by omega) (h x hx)
    have cl : ∀ x ∈ l, ACalls Try.prog 53 [aE x, .one (.ptr [.int .i64 ((d + 1 : Nat) : Int)])] (.pv (cB (!rightF d x))) := fun x hx => right1c_ok d x (ih x hx) hdb
    rw [aE_mk, rightF]
    by_cases hlen : (l.length : Int) = opsF op
    case neg =>
      rw [decide_eq_false hlen, Bool.false_and]
      exact rightN_ok (d := d + 1) hs hl hlen (by omega)
    rw [decide_eq_true hlen, Bool.true_and]
    have hE : ∀ b, (decide (s = E0)) = b → decide (s = []) = b := fun b h => h
    have hone : ∀ (a b x : Int), [x].all (inF a b) = inF a b x := fun a b x => by simp
    by_cases h0 : op = 0
    · subst h0
      rw [if_pos rfl]
      cases hA : decide (s = E0) with
      | false =>
        rw [Bool.false_and, Bool.false_and]
        exact right0_a hs hl hlen hdc hdb ih cl hA
      | true =>
        cases hB : [u].all (inF 0 4) with
        | false =>
          rw [← hone 0 4 u, hB, Bool.and_false, Bool.false_and]
          exact right0_b hs hl hlen hdc hdb ih cl hA hB
        | true =>
          have := right0_c hs hl hlen hdc hdb ih cl hA hB (n := n)
          rw [hA, hone, hone] at this
          exact this
    rw [if_neg h0]
    by_cases h1 : op = 1 ∨ op = 2 ∨ op = 3
    · rw [if_pos h1]
      exact right1_ok h1 hs hl hlen hdc hdb ih cl
    rw [if_neg h1]
    by_cases h2 : op = 16 ∨ op = 17 ∨ op = 18
    · rw [if_pos h2]
      have hl1 : l.length = 1 := by
        have : opsF op = 1 := by unfold opsF; rw [if_neg (by omega), if_pos (by omega)]
        omega
      have hpos : 0 < l.length := by omega
      have hall : l.all (rightF d) = rightF d (nth l 0) := by
        match l, hl1 with
        | [x], _ => simp [nth]
      rw [hall]
      have key : ∀ op : Int, (op = 16 → op = 16) := fun _ h => h
      rcases h2 with rfl | rfl | rfl
      · cases hA : (decide (u = 0) && decide (s = E0)) with
        | false =>
          have := right16_a hs hl hlen hdc hdb ih cl hA (n := n)
          rw [Bool.false_and, Bool.false_and]
          exact this
        | true =>
          cases hB : [n].all (inF 1 1000) with
          | false =>
            have := right16_b hs hl hlen hdc hdb ih cl hA hB
            rw [← hone 1 1000 n, hB, Bool.and_false, Bool.false_and]
            exact this
          | true =>
            have := right16_c hs hl hlen hdc hdb ih cl hpos hA hB
            rw [hA, hone] at this
            exact this
      · cases hA : (decide (u = 0) && decide (s = E0)) with
        | false =>
          have := right17_a hs hl hlen hdc hdb ih cl hA (n := n)
          rw [Bool.false_and, Bool.false_and]
          exact this
        | true =>
          cases hB : [n].all (inF 1 1000) with
          | false =>
            have := right17_b hs hl hlen hdc hdb ih cl hA hB
            rw [← hone 1 1000 n, hB, Bool.and_false, Bool.false_and]
            exact this
          | true =>
            have := right17_c hs hl hlen hdc hdb ih cl hpos hA hB
            rw [hA, hone] at this
            exact this
      · cases hA : (decide (u = 0) && decide (s = E0)) with
        | false =>
          have := right18_a hs hl hlen hdc hdb ih cl hA (n := n)
          rw [Bool.false_and, Bool.false_and]
          exact this
        | true =>
          cases hB : [n].all (inF 1 1000) with
          | false =>
            have := right18_b hs hl hlen hdc hdb ih cl hA hB
            rw [← hone 1 1000 n, hB, Bool.and_false, Bool.false_and]
            exact this
          | true =>
            have := right18_c hs hl hlen hdc hdb ih cl hpos hA hB
            rw [hA, hone] at this
            exact this
    rw [if_neg h2]
    have hany : l.all (rightF d) = !(l.any fun x => !rightF d x) := by
      rw [Bool.eq_iff_iff]; simp
    rw [hany]
    cases hC : (decide (n = 0) && decide (u = 0) && decide (s = E0)) with
    | false =>
      rw [Bool.false_and]
      exact rightE_a h0 h1 h2 hs hl hlen hdc hdb ih cl hC
    | true =>
      have := rightE_c h0 h1 h2 hs hl hlen hdc hdb ih cl hC
      rw [hC] at this
      exact this
end Go.Proofs.Ytjedkgogjehigaa
end
section
set_option linter.unusedVariables false
set_option linter.unusedSimpArgs false
set_option maxHeartbeats 8000000
set_option linter.unusedSectionVars false
namespace Go.Proofs.Ytjedkgogjehigaa
open Lf Go
attribute [local irreducible] PureOp EffOp Ev RG W Then InBlock Lf.Fin nth App InitE Pick SubE EvL EvD EvP EvR ResL Lf.Lex SubR SubBR EvC FinO FinM ResM ResD FinS val pw digs trimL
theorem rtrim_own (l : List Int) (hl : l.length ≤ 4000000) : OCalls Try.prog 101 [slI l] 3 1 ((trimL l).map Lf.encI) := by
  refine OCalls.of_W 2 23 Try.func101 (by kernel_rfl) rfl rfl rfl rfl fun G => ?_
  refine W.initA (hw := ?_)
  repeat' (first | ((first | apply U_ | (apply Ug_; exact rfl; exact rfl) | (apply Ugq_; exact rfl; exact rfl)); (first | exact QX.B TYok | exact QX.Len TYok | exact QX.Idx TYok | exact QX.Cut TYok); exact rfl) | refine SX.Lit TYok (h := ?_) | refine SX.App TYok (h := ?_) | refine SC ?_ | (apply S_isnil TYok; exact rfl; exact rfl; exact rfl; exact Ev.auto; intro bn hnil) | refine SG ?_ | (refine W.condA (ht := fun hb => ?_) (hf := fun hb => ?_) <;> (try simp at hb) <;> (try (exfalso; omega))))
  apply W.loopP (σ := Nat) 23 [0] (fun n => n ≤ l.length ∧ trimL l = trimL (l.take n)) (fun n => [(3, vI n)]) (fun _ => []) (fun n => n) (l.length)
  case hp => repeat (first | exact Pick.nil | apply Pick.cons rfl)
  case h0 =>
    refine ⟨by simp, ?_⟩
    exact Le.auto
  case round =>
    rintro n ⟨h1, h2⟩
    apply W.norm (by repeat (first | exact App.nil | apply App.cons))
    repeat' (first | ((first | apply U_ | (apply Ug_; exact rfl; exact rfl) | (apply Ugq_; exact rfl; exact rfl)); (first | exact QX.B TYok | exact QX.Len TYok | exact QX.Idx TYok | exact QX.Cut TYok); exact rfl) | refine SX.Lit TYok (h := ?_) | refine SX.App TYok (h := ?_) | (apply S_appendd TYok; exact Ev.auto; exact Ev.auto; exact rfl; exact rfl; exact rfl; exact rfl; exact rfl; exact rfl; exact rfl; exact rfl; (intro r hr; obtain ⟨_, _, rfl⟩ := List.mem_map.1 (List.mem_of_mem_take hr); rfl); (constructor <;> simp <;> omega); exact rfl) | refine SC ?_ | (apply S_isnil TYok; exact rfl; exact rfl; exact rfl; exact Ev.auto; intro bn hnil) | refine SG ?_ | (refine W.condA (ht := fun hb => ?_) (hf := fun hb => ?_) <;> (try simp at hb) <;> (try (exfalso; omega))))
    · refine ⟨n - 1, ⟨by omega, by rw [h2, trim_step' h1 hb.1 hb.2]⟩, ?_, by omega⟩
      exact Le.auto
    · rw [h2, trim_stop' h1 hb]
      exact FinO.ret rfl rfl (by simp)
theorem rtrim_ok (l : List Int) (hl : l.length ≤ 4000000) : ACalls Try.prog 101 [slI l] (.pv (slI (trimL l))) := (rtrim_own l hl).data rfl
theorem rdigit_ok (l : List Int) (i : Nat) : ACalls Try.prog 105 [slI l, cI i] (.pv (cI (vj l i))) := by
  refine ACalls.of_W (qs := [cI (vj l i)]) [4] 13 Try.func105 (by kernel_rfl) rfl rfl rfl fun G => ?_
  refine W.initA (hw := ?_)
  repeat' (first | ((first | apply U_); (first | exact QX.B TYok | exact QX.Len TYok | exact QX.Idx TYok); exact rfl) | refine SC ?_ | (refine W.condA (ht := fun hb => ?_) (hf := fun hb => ?_) <;> (try simp at hb) <;> (try (exfalso; omega))))
  · rw [vj_yes (by omega)]
    exact Fin.ret ResL.auto
  · rw [vj_no (by omega)]
    exact Fin.ret ResL.auto
theorem less_eq {a b : List Int} {n : Nat} (h : vj a n = vj b n) : (val (a.take (n + 1)) < val (b.take (n + 1)) ↔ val (a.take n) < val (b.take n)) := by
  rw [vj_take, vj_take, h]
  omega
theorem take_hi {a : List Int} (da : Dig a) (n : Nat) : 0 ≤ val (a.take n) ∧ val (a.take n) < pw n := by
  refine ⟨val_lo (da.take n), ?_⟩
  have h1 := val_hi (da.take n)
  have h2 := pw_mono (show (a.take n).length ≤ n by simp; omega)
  omega
theorem less_ne {a b : List Int} (da : Dig a) (db : Dig b) {n : Nat} (h : ¬ vj a n = vj b n) : (val (a.take (n + 1)) < val (b.take (n + 1)) ↔ vj a n < vj b n) := by
  have h1 := take_hi da n
  have h2 := take_hi db n
  have hp := pw_pos n
  rw [vj_take, vj_take]
  generalize vj a n = x at *
  generalize vj b n = y at *
  by_cases hxy : x < y
  · have : pw n * (x + 1) ≤ pw n * y := Int.mul_le_mul_of_nonneg_left (by omega) (by omega)
    rw [Int.mul_add] at this
    constructor <;> intro _ <;> omega
  · have : pw n * (y + 1) ≤ pw n * x := Int.mul_le_mul_of_nonneg_left (by omega) (by omega)
    rw [Int.mul_add] at this
    constructor <;> intro _ <;> omega
theorem rless_ok (a b : List Int) (da : Dig a) (db : Dig b) (hl : a.length ≤ 4000000) (hl' : b.length ≤ 4000000) : ACalls Try.prog 103 [slI a, slI b] (.pv (cB (decide (val a < val b)))) := by
  have h1 := rdigit_ok a
  have h2 := rdigit_ok b
  obtain ⟨m, hm⟩ : ∃ m : Nat, max (a.length : Int) b.length = m := ⟨max a.length b.length, by omega⟩
  refine ACalls.of_W (qs := [cB (decide (val a < val b))]) [4] 30 Try.func103 (by kernel_rfl) rfl rfl rfl fun G => ?_
  refine W.initA (hw := ?_)
  repeat' (first | ((first | apply U_); (first | exact QX.B TYok | exact QX.Num TYok | exact QX.Len TYok); exact rfl) | refine SC ?_ | (refine W.condA (ht := fun hb => ?_) (hf := fun hb => ?_) <;> (try simp at hb) <;> (try (exfalso; omega))))
  apply W.loopP (σ := Nat) 30 [0, 1] (fun n => n ≤ m ∧ (val a < val b ↔ val (a.take n) < val (b.take n))) (fun n => [(5, vI ((n : Int) - 1))]) (fun _ => []) (fun n => n) (m)
  case hp => repeat (first | exact Pick.nil | apply Pick.cons rfl)
  case h0 =>
    refine ⟨⟨by omega, by rw [List.take_of_length_le (by omega), List.take_of_length_le (by omega)]⟩, ?_⟩
    rw [hm]
    exact Le.auto
  case round =>
    rintro n ⟨g1, g2⟩
    apply W.norm (by repeat (first | exact App.nil | apply App.cons))
    cases n with
    | succ n =>
      have e1 : ((n + 1 : Nat) : Int) - 1 = n := by omega
      rw [e1]
      repeat' (first | ((first | apply U_); (first | exact QX.B TYok | exact QX.Num TYok | exact QX.Len TYok | exact QCl (h1 n) | exact QCl (h2 n)); exact rfl) | refine SC ?_ | (refine W.condA (ht := fun hb => ?_) (hf := fun hb => ?_) <;> (try simp at hb) <;> (try (exfalso; omega))))
      · rw [show decide (val a < val b) = decide (vj a n < vj b n) from decide_eq_decide.2 (g2.trans (less_ne da db hb))]
        exact Fin.ret ResL.auto
      · refine ⟨n, ⟨by omega, g2.trans (less_eq hb)⟩, ?_, by omega⟩
        exact Le.auto
    | zero =>
      repeat' (first | ((first | apply U_); (first | exact QX.B TYok | exact QX.Num TYok | exact QX.Len TYok); exact rfl) | refine SC ?_ | (refine W.condA (ht := fun hb => ?_) (hf := fun hb => ?_) <;> (try simp at hb) <;> (try (exfalso; omega))))
      rw [show decide (val a < val b) = false from decide_eq_false (fun h => by simpa using g2.1 h)]
      exact Fin.ret ResL.auto
structure PlusI (a b out : List Int) (i : Nat) (c : Int) : Prop where
  len : out.length = i
  dig : Dig out
  c0 : 0 ≤ c ∧ c ≤ 1
  top : a.length < i → b.length < i → c = 0
  eq : val out + pw i * c = val (a.take i) + val (b.take i)
theorem PlusI.step {a b out : List Int} {i : Nat} {c : Int} (h : PlusI a b out i c) (ha : Dig a) (hb : Dig b) {n : Int} (hn : n = vj a i + vj b i + c) :
    PlusI a b (out ++ [n % 1048576]) (i + 1) (n / 1048576) := by
  have h1 := vj_dig ha i
  have h2 := vj_dig hb i
  have h3 := h.c0
  refine ⟨by simp [h.len], h.dig.app (Dig.cons (by omega) Dig.nil), by omega, fun q1 q2 => ?_, ?_⟩
  · rw [vj_no (by omega)] at hn h1
    rw [vj_no (by omega)] at hn
    omega
  · have h4 := h.eq
    rw [val_app, val_one, h.len, vj_take, vj_take, pw]
    have h5 := Int.emod_add_mul_ediv n 1048576
    generalize n % 1048576 = r at h5 ⊢
    generalize n / 1048576 = q at h5 ⊢
    grind
theorem PlusI.done {a b out : List Int} {i : Nat} (h : PlusI a b out i 0) (h1 : a.length ≤ i) (h2 : b.length ≤ i) : trimL out = digs (val a + val b) := by
  refine trim_eq h.dig ?_
  have h3 := h.eq
  rw [List.take_of_length_le h1, List.take_of_length_le h2] at h3
  omega
theorem rplus_ok (a b : List Int) (da : Dig a) (db : Dig b) (hl : a.length ≤ 1000000) (hl' : b.length ≤ 1000000) : ACalls Try.prog 99 [slI a, slI b] (.pv (slI (digs (val a + val b)))) := by
  have h1 := rdigit_ok a
  have h2 := rdigit_ok b
  have key : ∀ (out : List Int) (i : Nat), i ≤ 2000000 → PlusI a b out i 0 → a.length ≤ i → b.length ≤ i → ACalls Try.prog 101 [slI out] (.pv (slI (digs (val a + val b)))) := fun out i hi h q1 q2 => by
    rw [← h.done q1 q2]; exact rtrim_ok out (by rw [h.len]; omega)
  refine ACalls.of_W (qs := [slI (digs (val a + val b))]) [4] 43 Try.func99 (by kernel_rfl) rfl rfl rfl fun G => ?_
  refine W.initA (hw := ?_)
  repeat' (first | ((first | apply U_ | (apply Ug_; exact rfl; exact rfl) | (apply Ugq_; exact rfl; exact rfl)); (first | exact QX.B TYok | exact QX.Len TYok); exact rfl) | refine SX.Lit TYok (h := ?_) | refine SX.App TYok (h := ?_) | refine SC ?_ | refine SG ?_ | (refine W.condA (ht := fun hb => ?_) (hf := fun hb => ?_) <;> (try simp at hb) <;> (try (exfalso; omega))))
  refine W.weaken (Le.nilOwn (t := 5) (n := 38) (E := 3) (sz := 1) rfl) ?_
  apply W.loopP (σ := Nat × Int × List Int) 43 [0, 1] (fun (i, c, out) => (i ≤ a.length + 1 ∨ i ≤ b.length + 1) ∧ PlusI a b out i c) (fun (i, c, out) => [(6, vI c), (7, vI i), (5, (True, .slc 38))]) (fun (i, c, out) => [(38, ⟨3, 1, out.map Lf.encI⟩)]) (fun (i, c, out) => a.length + b.length + 2 - i) ((0, 0, []))
  case hp => repeat (first | exact Pick.nil | apply Pick.cons rfl)
  case h0 =>
    refine ⟨⟨by simp, by simp, Dig.nil, by omega, by simp, by simp [val]⟩, ?_⟩
    exact Le.auto
  case round =>
    rintro ⟨i, c, out⟩ ⟨g1, g2⟩
    have g3 := g2.len
    have g4 := g2.c0
    have g5 := g2.top
    have d1 := vj_dig da i
    have d2 := vj_dig db i
    dsimp only at g1 ⊢
    apply W.norm (by repeat (first | exact App.nil | apply App.cons))
    by_cases hc : i < a.length ∨ i < b.length ∨ 0 < c
    · repeat' (first | ((first | apply U_ | (apply Ug_; exact rfl; exact rfl) | (apply Ugq_; exact rfl; exact rfl)); (first | exact QX.B TYok | exact QX.Len TYok | exact QCl (h1 i) | exact QCl (h2 i)); exact rfl) | refine SX.Lit TYok (h := ?_) | refine SX.App TYok (h := ?_) | refine SC ?_ | refine SG ?_ | (refine W.condA (ht := fun hb => ?_) (hf := fun hb => ?_) <;> (try simp at hb) <;> (try (exfalso; omega))))
      · refine ⟨(i + 1, (vj a i + vj b i + c) / 1048576, out ++ [(vj a i + vj b i + c) % 1048576]), ⟨by omega, g2.step da db rfl⟩, ?_, by (try simp only at *); (try dsimp only); omega⟩
        exact Le.auto
      all_goals (exfalso; omega)
    · obtain rfl : c = 0 := by omega
      have k1 := key out i (by omega) g2 (by omega) (by omega)
      repeat' (first | (refine W.weaken (Le.freeze1 (m := 38) rfl) ?_; apply W.region (id := 9)) | ((first | apply U_ | (apply Ug_; exact rfl; exact rfl) | (apply Ugq_; exact rfl; exact rfl)); (first | exact QX.B TYok | exact QX.Len TYok | exact QCd (k1)); exact rfl) | refine SX.Lit TYok (h := ?_) | refine SX.App TYok (h := ?_) | refine SC ?_ | refine SG ?_ | (refine W.condA (ht := fun hb => ?_) (hf := fun hb => ?_) <;> (try simp at hb) <;> (try (exfalso; omega))))
      all_goals first | exact Fin.ret ResL.auto | (exfalso; omega)
structure MinI (a b out : List Int) (i : Nat) (c : Int) : Prop where
  len : out.length = i
  dig : Dig out
  c0 : 0 ≤ c ∧ c ≤ 1
  eq : val out - pw i * c = val (a.take i) - val (b.take i)
theorem MinI.step {a b out : List Int} {i : Nat} {c : Int} (h : MinI a b out i c) (ha : Dig a) (hb : Dig b) {n r c' : Int} (hn : n = vj a i - vj b i - c) (hr : r = n + 1048576 * c') (hc : (n < 0 ∧ c' = 1) ∨ (0 ≤ n ∧ c' = 0)) :
    MinI a b (out ++ [r]) (i + 1) c' := by
  have h1 := vj_dig ha i
  have h2 := vj_dig hb i
  have h3 := h.c0
  refine ⟨by simp [h.len], h.dig.app (Dig.cons (by omega) Dig.nil), by omega, ?_⟩
  have h4 := h.eq
  rw [val_app, val_one, h.len, vj_take, vj_take, pw]
  generalize vj a i = x at *
  generalize vj b i = y at *
  generalize pw i = p at *
  subst hn; subst hr
  grind
theorem MinI.done {a b out : List Int} {c : Int} (h : MinI a b out a.length c) (hl : b.length ≤ a.length) (hv : val b ≤ val a) : trimL out = digs (val a - val b) := by
  have h1 := h.eq
  have h2 := val_hi h.dig
  rw [h.len] at h2
  rw [List.take_length, List.take_of_length_le hl] at h1
  refine trim_eq h.dig ?_
  have h3 : c = 0 ∨ c = 1 := by have := h.c0; omega
  rcases h3 with rfl | rfl
  · omega
  · rw [Int.mul_one] at h1; omega
theorem rminus_ok (a b : List Int) (da : Dig a) (db : Dig b) (hl : a.length ≤ 1000000) (hab : b.length ≤ a.length) (hv : val b ≤ val a) : ACalls Try.prog 100 [slI a, slI b] (.pv (slI (digs (val a - val b)))) := by
  have h2 := rdigit_ok b
  have key : ∀ (out : List Int) (c : Int), MinI a b out a.length c → ACalls Try.prog 101 [slI out] (.pv (slI (digs (val a - val b)))) := fun out c h => by
    rw [← h.done hab hv]; exact rtrim_ok out (by rw [h.len]; omega)
  refine ACalls.of_W (qs := [slI (digs (val a - val b))]) [4] 35 Try.func100 (by kernel_rfl) rfl rfl rfl fun G => ?_
  refine W.initA (hw := ?_)
  repeat' (first | ((first | apply U_ | apply Lex.u | (apply Lex.g; exact rfl; exact rfl) | (apply Lex.gq; exact rfl; exact rfl)); (first | exact QX.B TYok | exact QX.Len TYok | exact QX.Idx TYok); exact rfl) | refine SX.Lit TYok (h := ?_) | refine SX.App TYok (h := ?_) | refine SC ?_ | (apply W.draw2 (id := 6) [0, 0, 3, 7, 0, 0, 48, 127, 0, 511, 1023] [[0], [7], [15, 16], [17], [1], [7], [19, 20], [18, 21], [6], [22, 23], [24]] 11 [(15, 1), (16, 128), (17, 98304), (18, 131072), (19, 2), (20, 128), (21, 1572864), (22, 2359296), (23, 64), (24, 12582912), (8, 16777216)] mixed (by kernel_rfl) rfl rfl) | (refine W.condA (ht := fun hb => ?_) (hf := fun hb => ?_) <;> (try simp at hb) <;> (try (exfalso; omega))))
  refine W.weaken (Le.nilOwn (t := 5) (n := 32) (E := 3) (sz := 1) rfl) ?_
  apply W.loopP (σ := Nat × Int × List Int) 35 [0, 1] (fun (i, c, out) => i ≤ a.length ∧ MinI a b out i c) (fun (i, c, out) => [(6, vI c), (7, vI i), (5, (True, .slc 32))]) (fun (i, c, out) => [(32, ⟨3, 1, out.map Lf.encI⟩)]) (fun (i, c, out) => a.length - i) ((0, 0, []))
  case hp => repeat (first | exact Pick.nil | apply Pick.cons rfl)
  case h0 =>
    refine ⟨⟨by simp, by simp, Dig.nil, by omega, by simp [val]⟩, ?_⟩
    exact Le.auto
  case round =>
    rintro ⟨i, c, out⟩ ⟨g1, g2⟩
    have g3 := g2.len
    have g4 := g2.c0
    have d1 := vj_dig da i
    have d2 := vj_dig db i
    dsimp only at g1 ⊢
    apply W.norm (by repeat (first | exact App.nil | apply App.cons))
    by_cases hi : i < a.length
    · rw [vj_yes hi] at d1
      repeat' (first | ((first | apply U_ | apply Lex.u | (apply Lex.g; exact rfl; exact rfl) | (apply Lex.gq; exact rfl; exact rfl)); (first | exact QX.B TYok | exact QX.Len TYok | exact QX.Idx TYok | exact QCl (h2 i)); exact rfl) | refine SX.Lit TYok (h := ?_) | refine SX.App TYok (h := ?_) | refine SC ?_ | (apply W.draw2 (id := 6) [0, 0, 3, 7, 0, 0, 48, 127, 0, 511, 1023] [[0], [7], [15, 16], [17], [1], [7], [19, 20], [18, 21], [6], [22, 23], [24]] 11 [(15, 1), (16, 128), (17, 98304), (18, 131072), (19, 2), (20, 128), (21, 1572864), (22, 2359296), (23, 64), (24, 12582912), (8, 16777216)] mixed (by kernel_rfl) rfl rfl) | (refine W.condA (ht := fun hb => ?_) (hf := fun hb => ?_) <;> (try simp at hb) <;> (try (exfalso; omega))))
      · refine ⟨(i + 1, 1, out ++ [nth a i - vj b i - c + 1048576]), ⟨by omega, g2.step (c' := 1) da db (by rw [vj_yes hi]) (by omega) (.inl ⟨hb, rfl⟩)⟩, ?_, by (try simp only at *); (try dsimp only); omega⟩
        exact Le.auto
      · refine ⟨(i + 1, 0, out ++ [nth a i - vj b i - c]), ⟨by omega, g2.step (c' := 0) da db (by rw [vj_yes hi]) (by omega) (.inr ⟨by omega, rfl⟩)⟩, ?_, by (try simp only at *); (try dsimp only); omega⟩
        exact Le.auto
    · obtain rfl : i = a.length := by omega
      have k1 := key out c g2
      repeat' (first | (refine W.weaken (Le.freeze1 (m := 32) rfl) ?_; apply W.region (id := 12)) | ((first | apply U_ | apply Lex.u | (apply Lex.g; exact rfl; exact rfl) | (apply Lex.gq; exact rfl; exact rfl)); (first | exact QX.B TYok | exact QX.Len TYok | exact QX.Idx TYok | exact QCd (k1)); exact rfl) | refine SX.Lit TYok (h := ?_) | refine SX.App TYok (h := ?_) | refine SC ?_ | (apply W.draw2 (id := 6) [0, 0, 3, 7, 0, 0, 48, 127, 0, 511, 1023] [[0], [7], [15, 16], [17], [1], [7], [19, 20], [18, 21], [6], [22, 23], [24]] 11 [(15, 1), (16, 128), (17, 98304), (18, 131072), (19, 2), (20, 128), (21, 1572864), (22, 2359296), (23, 64), (24, 12582912), (8, 16777216)] mixed (by kernel_rfl) rfl rfl) | (refine W.condA (ht := fun hb => ?_) (hf := fun hb => ?_) <;> (try simp at hb) <;> (try (exfalso; omega))))
      exact Fin.ret ResL.auto
end Go.Proofs.Ytjedkgogjehigaa
end
section
set_option linter.unusedVariables false
set_option linter.unusedSimpArgs false
set_option maxHeartbeats 8000000
set_option linter.unusedSectionVars false
namespace Go.Proofs.Ytjedkgogjehigaa
open Lf Go
attribute [local irreducible] PureOp EffOp Ev RG W Then InBlock Lf.Fin nth App InitE Pick SubE EvL EvD EvP EvR ResL Lf.Lex SubR SubBR EvC FinO FinM ResM ResD FinS val pw digs trimL
structure TimK (a b out : List Int) (i k : Nat) (c : Int) : Prop where
  len : out.length = a.length + b.length
  dig : Dig out
  c0 : 0 ≤ c ∧ c < 1048576
  top : b.length < k → c = 0
  eq : val out + pw (i + k) * c = val (a.take i) * val b + nth a i * (pw i * val (b.take k))
  high : k ≤ b.length → nth out (i + b.length) = 0
  high2 : ∀ j, i + 1 + b.length ≤ j → j < out.length → nth out j = 0
theorem TimK.step {a b out : List Int} {i k : Nat} {c : Int} (h : TimK a b out i k c) (hi : i < a.length) (hk : k ≤ b.length) (ha : Dig a) (hb : Dig b) {n : Int} (hn : n = nth out (i + k) + nth a i * vj b k + c) :
    TimK a b (out.set (i + k) (n % 1048576)) i (k + 1) (n / 1048576) := by
  have h1 := h.len
  have h2 := h.dig.nth (show i + k < out.length by omega)
  have h3 := mul_le (ha.nth hi) (vj_dig hb k)
  have h4 := h.c0
  have h5 := h.eq
  have h0 : k = b.length → n = c := fun e => by
    subst e
    rw [hn, h.high (by omega), vj_no (by omega)]; omega
  refine ⟨by simp [h1], h.dig.set (by omega), by omega, fun q => ?_, ?_, fun q => ?_, fun j hj hj2 => ?_⟩
  · have := h0 (by omega); omega
  · rw [val_set (by omega), show i + (k + 1) = (i + k) + 1 by omega, pw, vj_take]
    have h6 := Int.emod_add_mul_ediv n 1048576
    have h7 := pw_add k i
    generalize n % 1048576 = r at h6 ⊢
    generalize n / 1048576 = q at h6 ⊢
    generalize nth out (i + k) = o at hn ⊢
    generalize nth a i = x at *
    generalize vj b k = y at *
    generalize pw (i + k) = p at *
    generalize val (b.take k) = w at *
    generalize val (a.take i) * val b = u at *
    subst h7
    have e : n = o + x * y + c := hn
    have e2 : r = n - 1048576 * q := by omega
    subst e2
    subst e
    grind
  · rw [nth_set_ne (by omega)]
    exact h.high hk
  · rw [nth_set_ne (by omega)]
    exact h.high2 j hj (by simpa using hj2)
theorem TimK.done {a b out : List Int} {i k : Nat} (h : TimK a b out i k 0) (hi : i < a.length) (hk : b.length ≤ k) : MulI a b out (i + 1) := by
  refine ⟨h.len, h.dig, ?_, fun j hj hj2 => h.high2 j (by omega) hj2⟩
  have h5 := h.eq
  rw [val_take hi]
  rw [List.take_of_length_le hk] at h5
  generalize pw i = p at *
  generalize val (a.take i) = u at *
  grind
theorem rtimes_ok (a b : List Int) (da : Dig a) (db : Dig b) (hl : a.length ≤ 1000000) (hl' : b.length ≤ 1000000) : ACalls Try.prog 104 [slI a, slI b] (.pv (slI (digs (val a * val b)))) := by
  have h2 := rdigit_ok b
  have key : ∀ (out : List Int), MulI a b out a.length → ACalls Try.prog 101 [slI out] (.pv (slI (digs (val a * val b)))) := fun out h => by
    rw [← trim_eq h.dig (by rw [h.eq, List.take_length])]; exact rtrim_ok out (by rw [h.len]; omega)
  refine ACalls.of_W (qs := [slI (digs (val a * val b))]) [4] 60 Try.func104 (by kernel_rfl) rfl rfl rfl fun G => ?_
  refine W.initA (hw := ?_)
  repeat' (first | ((first | apply U_ | (apply Ug_; exact rfl; exact rfl) | (apply Ugq_; exact rfl; exact rfl) | apply Lex.u | (apply Lex.g; exact rfl; exact rfl) | (apply Lex.gq; exact rfl; exact rfl)); (first | exact QX.B TYok | exact QX.Len TYok | exact QX.Idx TYok); exact rfl) | refine SX.Store TYok (h := ?_) | refine SX.Make TYok (h := ?_) | refine SC ?_ | refine SG ?_ | (apply W.draw2 (id := 9) [0, 0, 0, 6, 15, 31, 0, 0, 192, 448, 0, 0, 3072, 8128, 16383, 0, 65535, 131071] [[5], [6], [8], [33, 34], [32, 35], [36], [0], [6], [38, 39], [40], [1], [8], [42, 43], [41, 44], [37, 45], [7], [46, 47], [48]] 18 [(32, 32), (33, 64), (34, 256), (35, 25769803776), (36, 38654705664), (37, 68719476736), (38, 1), (39, 64), (40, 824633720832), (41, 1099511627776), (42, 2), (43, 256), (44, 13194139533312), (45, 19791209299968), (46, 35321811042304), (47, 128), (48, 211106232532992), (9, 281474976710656)] mixed (by kernel_rfl) rfl rfl) | (refine W.condA (ht := fun hb => ?_) (hf := fun hb => ?_) <;> (try simp at hb) <;> (try (exfalso; omega))))
  apply W.loopP (σ := Nat × List Int) 60 [0, 1] (fun (i, out) => i ≤ a.length ∧ MulI a b out i) (fun (i, out) => [(6, vI i), (5, (True, .slc 15))]) (fun (i, out) => [(15, ⟨3, 1, out.map Lf.encI⟩)]) (fun (i, out) => a.length - i) ((0, List.replicate (a.length + b.length) 0))
  case hp => repeat (first | exact Pick.nil | apply Pick.cons rfl)
  case h0 =>
    refine ⟨⟨by simp, by simp, Dig.rep _, by simp [val, val_rep], fun j hj hj2 => ?_⟩, ?_⟩
    · simp at hj2; simp [nth, hj2]
    exact Le.auto
  case round =>
    rintro ⟨i, out⟩ ⟨g1, g2⟩
    have g3 := g2.len
    dsimp only at g1 ⊢
    apply W.norm (by repeat (first | exact App.nil | apply App.cons))
    by_cases hi : i < a.length
    · have g5 := da.nth hi
      repeat' (first | ((first | apply U_ | (apply Ug_; exact rfl; exact rfl) | (apply Ugq_; exact rfl; exact rfl) | apply Lex.u | (apply Lex.g; exact rfl; exact rfl) | (apply Lex.gq; exact rfl; exact rfl)); (first | exact QX.B TYok | exact QX.Len TYok | exact QX.Idx TYok); exact rfl) | refine SX.Store TYok (h := ?_) | refine SX.Make TYok (h := ?_) | refine SC ?_ | refine SG ?_ | (apply W.draw2 (id := 9) [0, 0, 0, 6, 15, 31, 0, 0, 192, 448, 0, 0, 3072, 8128, 16383, 0, 65535, 131071] [[5], [6], [8], [33, 34], [32, 35], [36], [0], [6], [38, 39], [40], [1], [8], [42, 43], [41, 44], [37, 45], [7], [46, 47], [48]] 18 [(32, 32), (33, 64), (34, 256), (35, 25769803776), (36, 38654705664), (37, 68719476736), (38, 1), (39, 64), (40, 824633720832), (41, 1099511627776), (42, 2), (43, 256), (44, 13194139533312), (45, 19791209299968), (46, 35321811042304), (47, 128), (48, 211106232532992), (9, 281474976710656)] mixed (by kernel_rfl) rfl rfl) | (refine W.condA (ht := fun hb => ?_) (hf := fun hb => ?_) <;> (try simp at hb) <;> (try (exfalso; omega))))
      apply W.loopP (σ := Nat × Int × List Int) 60 [0, 1, 6] (fun (k, c, out) => k ≤ b.length + 1 ∧ TimK a b out i k c) (fun (k, c, out) => [(8, vI k), (7, vI c), (5, (True, .slc 15))]) (fun (k, c, out) => [(15, ⟨3, 1, out.map Lf.encI⟩)]) (fun (k, c, out) => b.length + 1 - k) ((0, 0, out))
      case hp => repeat (first | exact Pick.nil | apply Pick.cons rfl)
      case h0 =>
        refine ⟨⟨by simp, g2.len, g2.dig, by omega, fun q => by simp at q, by rw [g2.eq]; simp [val], fun _ => g2.high _ (by omega) (by omega), fun j hj hj2 => g2.high j (by omega) hj2⟩, ?_⟩
        exact Le.auto
      case round =>
        rintro ⟨k, c, out⟩ ⟨f1, f2⟩
        have f3 := f2.len
        have f4 := f2.c0
        have f8 := f2.top
        dsimp only at f1 ⊢
        apply W.norm (by repeat (first | exact App.nil | apply App.cons))
        by_cases hk : k < b.length ∨ 0 < c
        · have hk2 : k ≤ b.length := by omega
          have f5 := mul_le g5 (vj_dig db k)
          have f6 := f2.dig.nth (show i + k < out.length by omega)
          have f7 : 0 ≤ nth out ((i : Int) + (k : Int)).toNat ∧ nth out ((i : Int) + (k : Int)).toNat < 1048576 := f6
          repeat' (first | ((first | apply U_ | (apply Ug_; exact rfl; exact rfl) | (apply Ugq_; exact rfl; exact rfl) | apply Lex.u | (apply Lex.g; exact rfl; exact rfl) | (apply Lex.gq; exact rfl; exact rfl)); (first | exact QX.B TYok | exact QX.Len TYok | exact QX.Idx TYok | exact QCl (h2 k)); exact rfl) | refine SX.Store TYok (h := ?_) | refine SX.Make TYok (h := ?_) | refine SC ?_ | refine SG ?_ | (apply W.draw2 (id := 9) [0, 0, 0, 6, 15, 31, 0, 0, 192, 448, 0, 0, 3072, 8128, 16383, 0, 65535, 131071] [[5], [6], [8], [33, 34], [32, 35], [36], [0], [6], [38, 39], [40], [1], [8], [42, 43], [41, 44], [37, 45], [7], [46, 47], [48]] 18 [(32, 32), (33, 64), (34, 256), (35, 25769803776), (36, 38654705664), (37, 68719476736), (38, 1), (39, 64), (40, 824633720832), (41, 1099511627776), (42, 2), (43, 256), (44, 13194139533312), (45, 19791209299968), (46, 35321811042304), (47, 128), (48, 211106232532992), (9, 281474976710656)] mixed (by kernel_rfl) rfl rfl) | (refine W.condA (ht := fun hb => ?_) (hf := fun hb => ?_) <;> (try simp at hb) <;> (try (exfalso; omega))))
          · refine ⟨(k + 1, (nth out (i + k) + nth a i * vj b k + c) / 1048576, out.set (i + k) ((nth out (i + k) + nth a i * vj b k + c) % 1048576)), ⟨by omega, f2.step hi hk2 da db rfl⟩, ?_, by (try dsimp only); omega⟩
            exact Le.auto
          all_goals (exfalso; omega)
        · obtain rfl : c = 0 := by omega
          repeat' (first | ((first | apply U_ | (apply Ug_; exact rfl; exact rfl) | (apply Ugq_; exact rfl; exact rfl) | apply Lex.u | (apply Lex.g; exact rfl; exact rfl) | (apply Lex.gq; exact rfl; exact rfl)); (first | exact QX.B TYok | exact QX.Len TYok | exact QX.Idx TYok); exact rfl) | refine SX.Store TYok (h := ?_) | refine SX.Make TYok (h := ?_) | refine SC ?_ | refine SG ?_ | (apply W.draw2 (id := 9) [0, 0, 0, 6, 15, 31, 0, 0, 192, 448, 0, 0, 3072, 8128, 16383, 0, 65535, 131071] [[5], [6], [8], [33, 34], [32, 35], [36], [0], [6], [38, 39], [40], [1], [8], [42, 43], [41, 44], [37, 45], [7], [46, 47], [48]] 18 [(32, 32), (33, 64), (34, 256), (35, 25769803776), (36, 38654705664), (37, 68719476736), (38, 1), (39, 64), (40, 824633720832), (41, 1099511627776), (42, 2), (43, 256), (44, 13194139533312), (45, 19791209299968), (46, 35321811042304), (47, 128), (48, 211106232532992), (9, 281474976710656)] mixed (by kernel_rfl) rfl rfl) | (refine W.condA (ht := fun hb => ?_) (hf := fun hb => ?_) <;> (try simp at hb) <;> (try (exfalso; omega))))
          refine ⟨(i + 1, out), ⟨by omega, f2.done hi (by omega)⟩, ?_, by (try dsimp only); omega⟩
          exact Le.auto
    · obtain rfl : i = a.length := by omega
      have k1 := key out g2
      repeat' (first | (refine W.weaken (Le.freeze1 (m := 15) rfl) ?_; apply W.region (id := 12)) | ((first | apply U_ | (apply Ug_; exact rfl; exact rfl) | (apply Ugq_; exact rfl; exact rfl) | apply Lex.u | (apply Lex.g; exact rfl; exact rfl) | (apply Lex.gq; exact rfl; exact rfl)); (first | exact QX.B TYok | exact QX.Len TYok | exact QX.Idx TYok | exact QCd (k1)); exact rfl) | refine SX.Store TYok (h := ?_) | refine SX.Make TYok (h := ?_) | refine SC ?_ | refine SG ?_ | (apply W.draw2 (id := 9) [0, 0, 0, 6, 15, 31, 0, 0, 192, 448, 0, 0, 3072, 8128, 16383, 0, 65535, 131071] [[5], [6], [8], [33, 34], [32, 35], [36], [0], [6], [38, 39], [40], [1], [8], [42, 43], [41, 44], [37, 45], [7], [46, 47], [48]] 18 [(32, 32), (33, 64), (34, 256), (35, 25769803776), (36, 38654705664), (37, 68719476736), (38, 1), (39, 64), (40, 824633720832), (41, 1099511627776), (42, 2), (43, 256), (44, 13194139533312), (45, 19791209299968), (46, 35321811042304), (47, 128), (48, 211106232532992), (9, 281474976710656)] mixed (by kernel_rfl) rfl rfl) | (refine W.condA (ht := fun hb => ?_) (hf := fun hb => ?_) <;> (try simp at hb) <;> (try (exfalso; omega))))
      exact Fin.ret ResL.auto
theorem ShortI.step2 {a out : List Int} {d : Int} {i : Nat} {r q : Int} (h : ShortI a out d (i + 1) r) (hi : i < a.length) (ha : Dig a) (hd : 0 < d) (hq : q = (r * 1048576 + nth a i) / d) :
    ShortI a (out.set i q) d i ((r * 1048576 + nth a i) % d) := by
  subst hq
  have h1 := h.len
  have h2 := ha.nth hi
  have h3 := h.r0
  have h4 := h.eq
  have hq0 : 0 ≤ (r * 1048576 + nth a i) / d := Int.ediv_nonneg (by omega) (by omega)
  have hq1 : (r * 1048576 + nth a i) / d < 1048576 := Int.ediv_lt_of_lt_mul hd (by omega)
  refine ⟨by simp [h1], h.dig.set ⟨hq0, hq1⟩, ⟨Int.emod_nonneg _ (by omega), Int.emod_lt_of_pos _ hd⟩, ?_⟩
  rw [val_drop hi, val_drop (l := out.set i ((r * 1048576 + nth a i) / d)) (i := i) (by rw [List.length_set]; omega), nth_set_self (by omega), drop_set_gt]
  have h6 := Int.emod_add_mul_ediv (r * 1048576 + nth a i) d
  generalize (r * 1048576 + nth a i) % d = x at *
  generalize (r * 1048576 + nth a i) / d = y at *
  grind
theorem quo_between {x d lo hi : Int} (hd : 0 < d) (h1 : lo * d ≤ x) (h2 : x < hi * d) (h3 : hi - lo ≤ 1) (h4 : lo < hi) : lo = x / d ∧ x - d * lo = x % d := by
  obtain rfl : hi = lo + 1 := by omega
  have e : x / d = lo := by
    have a1 : lo ≤ x / d := (Int.le_ediv_iff_mul_le hd).2 h1
    have a2 : x / d < lo + 1 := Int.ediv_lt_of_lt_mul hd h2
    omega
  refine ⟨e.symm, ?_⟩
  have := Int.emod_add_mul_ediv x d
  rw [e] at this
  omega
theorem rover_ok (a b : List Int) (da : Dig a) (db : Dig b) (hl : a.length ≤ 1000000) (hl' : b.length ≤ 900000) (h0 : 0 < val b) : ACalls Try.prog 98 [slI a, slI b] (.tup [slI (digs (val a / val b)), slI (digs (val a % val b))]) := by
  have key : ∀ (out : List Int) (r : Int), ShortI a out (val b) 0 r → ACalls Try.prog 101 [slI out] (.pv (slI (digs (val a / val b)))) := fun out r h => by
    rw [← h.done.1]; exact rtrim_ok out (by rw [h.len]; omega)
  have k29 : ∀ x r : Int, 0 ≤ x → x < 1048576 → 0 ≤ r → r < val b → ACalls Try.prog 101 [slI (x :: digs r)] (.pv (slI (digs (r * 1048576 + x)))) := fun x r h1 h2 h3 h4 => by
    have hlr : (digs r).length ≤ b.length := (digs_len h3).2 (by have := val_hi db; omega)
    rw [← trim_eq (l := x :: digs r) (x := r * 1048576 + x) (Dig.cons ⟨h1, h2⟩ (digs_norm r).dig) (by rw [val, val_digs h3]; omega)]
    exact rtrim_ok _ (by simp; omega)
  have k42 : ∀ m : Int, 0 ≤ m → m < 1048576 → ACalls Try.prog 104 [slI b, slI [m]] (.pv (slI (digs (val b * m)))) := fun m h1 h2 => by
    have := rtimes_ok b [m] db (Dig.cons ⟨h1, h2⟩ Dig.nil) (by omega) (by simp)
    rwa [val_one] at this
  have k54 : ∀ m : Int, 0 ≤ m → m < 1048576 → ACalls Try.prog 101 [slI [m]] (.pv (slI (digs m))) := fun m h1 h2 => by
    rw [← trim_eq (l := [m]) (Dig.cons ⟨h1, h2⟩ Dig.nil) (val_one m)]
    exact rtrim_ok [m] (by simp)
  have k55 : ∀ m : Int, 0 ≤ m → m < 1048576 → ACalls Try.prog 104 [slI b, slI (digs m)] (.pv (slI (digs (val b * m)))) := fun m h1 h2 => by
    have := rtimes_ok b (digs m) db (digs_norm m).dig (by omega) (by have := (digs_len h1 (n := 1)).2 (by simpa [pw] using h2); omega)
    rwa [val_digs h1] at this
  have lp : ∀ y : Int, 0 ≤ y → y < 1048576 * val b → (digs y).length ≤ b.length + 1 := fun y h1 h2 => (digs_len h1).2 (by
    have := val_hi db
    have := pw_succ b.length
    omega)
  have k43 : ∀ x y : Int, 0 ≤ x → x < 1048576 * val b → 0 ≤ y → y < 1048576 * val b → ACalls Try.prog 103 [slI (digs x), slI (digs y)] (.pv (cB (decide (x < y)))) := fun x y h1 h2 h3 h4 => by
    have e1 := lp x h1 h2
    have e2 := lp y h3 h4
    have := rless_ok (digs x) (digs y) (digs_norm x).dig (digs_norm y).dig (by omega) (by omega)
    rwa [val_digs h1, val_digs h3] at this
  have k56 : ∀ x y : Int, 0 ≤ y → y ≤ x → x < 1048576 * val b → ACalls Try.prog 100 [slI (digs x), slI (digs y)] (.pv (slI (digs (x - y)))) := fun x y h1 h2 h3 => by
    have e1 := lp x (by omega) h3
    have := rminus_ok (digs x) (digs y) (digs_norm x).dig (digs_norm y).dig (by omega) (digs_mono h1 h2) (by rw [val_digs h1, val_digs (by omega)]; omega)
    rwa [val_digs h1, val_digs (by omega)] at this
  refine ACalls.of_W (qs := [slI (digs (val a / val b)), slI (digs (val a % val b))]) [4, 5] 60 Try.func98 (by kernel_rfl) rfl rfl rfl fun G => ?_
  refine W.initA (hw := ?_)
  repeat' (first | ((first | apply U_); (first | exact QX.B TYok | exact QX.Len TYok | exact QX.Idx TYok); exact rfl) | refine SX.Store TYok (h := ?_) | refine SX.Lit TYok (h := ?_) | refine SX.Make TYok (h := ?_) | refine SX.App TYok (h := ?_) | refine SC ?_ | (refine W.condA (ht := fun hb => ?_) (hf := fun hb => ?_) <;> (try simp at hb) <;> (try (exfalso; omega))))
  refine W.weaken (Le.sub (t := 7) (q := True) (p' := slI (digs 0)) rfl (by rw [digs_zero]; exact PSub.nil')) ?_
  apply W.loopP (σ := Nat × Int × List Int) 60 [0, 1] (fun (i, r, out) => i ≤ a.length ∧ ShortI a out (val b) i r) (fun (i, r, out) => [(8, vI ((i : Int) - 1)), (7, (True, .pv (slI (digs r)))), (6, (True, .slc 14))]) (fun (i, r, out) => [(14, ⟨3, 1, out.map Lf.encI⟩)]) (fun (i, r, out) => i) ((a.length, 0, List.replicate a.length 0))
  case hp => repeat (first | exact Pick.nil | apply Pick.cons rfl)
  case h0 =>
    refine ⟨⟨by simp, by simp, Dig.rep _, by omega, by simp [val]⟩, ?_⟩
    exact Le.auto
  case round =>
    rintro ⟨i, r, out⟩ ⟨g1, g2⟩
    have g3 := g2.len
    have g4 := g2.r0
    dsimp only at g1 g2 ⊢
    apply W.norm (by repeat (first | exact App.nil | apply App.cons))
    cases i with
    | succ i =>
      have hia : i < a.length := by omega
      have e1 : ((i + 1 : Nat) : Int) - 1 = i := by omega
      have g5 := da.nth hia
      rw [e1]
      have hlr : (digs r).length ≤ b.length := (digs_len g4.1).2 (by have := val_hi db; omega)
      have c29 := k29 (nth a i) r g5.1 g5.2 g4.1 g4.2
      have x0 : 0 ≤ r * 1048576 + nth a i := by omega
      have x1 : r * 1048576 + nth a i < 1048576 * val b := by omega
      repeat' (first | (refine RG.weaken (Le.freeze1 (m := 28) rfl) ?_) | ((first | apply U_); (first | exact QX.B TYok | exact QX.Len TYok | exact QX.Idx TYok | exact QCd (c29)); exact rfl) | refine SX.Store TYok (h := ?_) | refine SX.Lit TYok (h := ?_) | refine SX.Make TYok (h := ?_) | refine SX.App TYok (h := ?_) | refine SC ?_ | (refine W.condA (ht := fun hb => ?_) (hf := fun hb => ?_) <;> (try simp at hb) <;> (try (exfalso; omega))))
      apply W.loopP (σ := Int × Int) 60 [0, 1, 6, 7, 8] (fun (lo, hi) => 0 ≤ lo ∧ lo < hi ∧ hi ≤ 1048576 ∧ lo * val b ≤ r * 1048576 + nth a i ∧ r * 1048576 + nth a i < hi * val b) (fun (lo, hi) => [(9, vI lo), (10, vI hi)]) (fun _ => [(14, ⟨3, 1, out.map Lf.encI⟩)]) (fun (lo, hi) => (hi - lo).toNat) ((0, 1048576))
      case hp => repeat (first | exact Pick.nil | apply Pick.cons rfl)
      case h0 =>
        refine ⟨⟨by omega, by omega, by omega, by omega, by omega⟩, ?_⟩
        exact Le.auto
      case round =>
        rintro ⟨lo, hi⟩ ⟨f1, f2, f3, f4, f5⟩
        dsimp only at f1 f2 f3 f4 f5 ⊢
        apply W.norm (by repeat (first | exact App.nil | apply App.cons))
        by_cases hc : hi - lo > 1
        · have m1 : lo < (lo + hi) / 2 ∧ (lo + hi) / 2 < hi := by omega
          have c42 := k42 ((lo + hi) / 2) (by omega) (by omega)
          have hv : 0 ≤ val b * ((lo + hi) / 2) ∧ val b * ((lo + hi) / 2) < 1048576 * val b := by
            refine ⟨Int.mul_nonneg (by omega) (by omega), ?_⟩
            rw [Int.mul_comm]
            exact Int.mul_lt_mul_of_pos_right (by omega) h0
          have c43 := k43 (r * 1048576 + nth a i) (val b * ((lo + hi) / 2)) x0 x1 hv.1 hv.2
          repeat' (first | ((first | apply U_); (first | (apply Q_litD TYok; (repeat (first | exact EvR.nil | apply EvR.cons Ev.auto)); exact rfl; exact rfl; exact rfl; exact rfl; exact rfl; exact rfl) | exact QX.B TYok | exact QX.Len TYok | exact QX.Idx TYok | exact QCd (c42) | exact QCd (c43)); exact rfl) | refine SX.Store TYok (h := ?_) | refine SX.Lit TYok (h := ?_) | refine SX.Make TYok (h := ?_) | refine SX.App TYok (h := ?_) | refine SC ?_ | (refine W.condA (ht := fun hb => ?_) (hf := fun hb => ?_) <;> (try simp at hb) <;> (try (exfalso; omega))))
          · refine ⟨(lo, (lo + hi) / 2), ⟨by omega, by omega, by omega, f4, Int.mul_comm (val b) _ ▸ hb⟩, ?_, by (try dsimp only); omega⟩
            exact Le.auto
          · refine ⟨((lo + hi) / 2, hi), ⟨by omega, by omega, by omega, by rw [Int.mul_comm (_ : Int) (val b)]; dsimp only; omega, f5⟩, ?_, by (try dsimp only); omega⟩
            exact Le.auto
        · obtain ⟨e2, e3⟩ := quo_between h0 f4 f5 (by omega) f2
          have g6 := g2.step2 (q := lo) hia da h0 e2
          have c54 := k54 lo f1 (by omega)
          have c55 := k55 lo f1 (by omega)
          have c56 := k56 (r * 1048576 + nth a i) (val b * lo) (Int.mul_nonneg (by omega) f1) (by rw [Int.mul_comm]; exact f4) x1
          rw [e3] at c56
          repeat' (first | ((first | apply U_); (first | (apply Q_litD TYok; (repeat (first | exact EvR.nil | apply EvR.cons Ev.auto)); exact rfl; exact rfl; exact rfl; exact rfl; exact rfl; exact rfl) | exact QX.B TYok | exact QX.Len TYok | exact QX.Idx TYok | exact QCd (c54) | exact QCd (c55) | exact QCd (c56)); exact rfl) | refine SX.Store TYok (h := ?_) | refine SX.Lit TYok (h := ?_) | refine SX.Make TYok (h := ?_) | refine SX.App TYok (h := ?_) | refine SC ?_ | (refine W.condA (ht := fun hb => ?_) (hf := fun hb => ?_) <;> (try simp at hb) <;> (try (exfalso; omega))))
          refine ⟨(i, (r * 1048576 + nth a i) % val b, out.set i lo), ⟨by omega, g6⟩, ?_, by (try dsimp only); omega⟩
          exact Le.auto
    | zero =>
      have k1 := key out r g2
      repeat' (first | (refine W.weaken (Le.freeze1 (m := 14) rfl) ?_; apply W.region (id := 16)) | ((first | apply U_); (first | exact QX.B TYok | exact QX.Len TYok | exact QX.Idx TYok | exact QCd (k1)); exact rfl) | refine SX.Store TYok (h := ?_) | refine SX.Lit TYok (h := ?_) | refine SX.Make TYok (h := ?_) | refine SX.App TYok (h := ?_) | refine SC ?_ | (refine W.condA (ht := fun hb => ?_) (hf := fun hb => ?_) <;> (try simp at hb) <;> (try (exfalso; omega))))
      rw [← g2.done.2]
      exact Fin.ret ResL.auto
end Go.Proofs.Ytjedkgogjehigaa
end
