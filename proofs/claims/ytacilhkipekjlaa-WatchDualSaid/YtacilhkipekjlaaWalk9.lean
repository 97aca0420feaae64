/-
  What is known of several truths
-/
import Derived.Test.YtacilhkipekjlaaWalk7
import Derived.Test.YtacilhkipekjlaaLfPtr
set_option linter.unusedVariables false
set_option linter.unusedSimpArgs false
set_option maxHeartbeats 8000000
namespace Go.Proofs.Ytacilhkipekjlaa
open Lf Go
attribute [local irreducible] PureOp EffOp Ev RG W Then InBlock Lf.Fin nth App InitE Pick SubE SubF SubG EvL EvD EvP EvR ResL Lf.Lex SubR SubBR RA RAll EvC FinO FinM ResM FinB ResD

/-! ### what is known of several truths -/
theorem indexN_ok (l : List Int) (x : Int) (hl : l.length ≤ 9223372036854775807) : ACalls Try.prog 61 [slI l, cI x] (.pv (cI (if x ∈ l then (l.idxOf x : Int) else -1))) := by
  refine ACalls.of_W (qs := [cI (if x ∈ l then (l.idxOf x : Int) else -1)]) [4] 19 Try.func61 (by kernel_rfl) rfl rfl rfl fun G => ?_
  refine W.initA (hw := ?_)
  repeat' (first
    | apply RG.nil
    | apply Lex.nil
    | apply Then.n
    | apply Then.r
    | apply Then.x
    | apply InBlock.n
    | apply InBlock.r
    | apply InBlock.hit
    | (apply InBlock.miss; exact rfl)
    | apply W.seq
    | apply W.region
    | apply W.block
    | apply W.skip
    | apply W.ret
    | apply W.exit
    | ((first | apply U_); (first
    | exact QX.Move TYok
    | exact QX.Asg TYok
    | exact QX.Ld TYok
    | exact QX.Bin TYok
    | exact QX.Len TYok
    | exact QX.Idx TYok); exact rfl)
    | (apply S_isnil TYok; exact rfl; exact rfl; exact rfl; exact Ev.auto; intro bn hnil)
    | (refine W.condA (ht := fun hb => ?_) (hf := fun hb => ?_) <;> (try simp at hb) <;> (try (exfalso; omega))))
  apply W.loopP (σ := Nat) 19 [0, 1, 7] (fun k => k ≤ l.length ∧ x ∉ l.take k) (fun k => [(8, vI k)]) (fun _ => []) (fun k => l.length - k) (0)
  case hp => repeat (first | exact Pick.nil | apply Pick.cons rfl)
  case h0 =>
    refine ⟨by simp, ?_⟩
    exact Le.auto
  case round =>
    rintro k ⟨h1, h2⟩
    apply W.norm (by repeat (first | exact App.nil | apply App.cons))
    repeat' (first
      | apply RG.nil
      | apply Lex.nil
      | apply Then.n
      | apply Then.r
      | apply Then.x
      | apply InBlock.n
      | apply InBlock.r
      | apply InBlock.hit
      | (apply InBlock.miss; exact rfl)
      | apply W.seq
      | apply W.region
      | apply W.block
      | apply W.skip
      | apply W.ret
      | apply W.exit
      | ((first | apply U_); (first
    | exact QX.Move TYok
    | exact QX.Asg TYok
    | exact QX.Ld TYok
    | exact QX.Bin TYok
    | exact QX.Len TYok
    | exact QX.Idx TYok); exact rfl)
      | (apply S_isnil TYok; exact rfl; exact rfl; exact rfl; exact Ev.auto; intro bn hnil)
      | (refine W.condA (ht := fun hb => ?_) (hf := fun hb => ?_) <;> (try simp at hb) <;> (try (exfalso; omega))))
    · have hk : k < l.length := by omega
      have hm : x ∈ l := by rw [hb]; rw [nth, List.getD, List.getElem?_eq_getElem hk]; exact List.getElem_mem hk
      have e : l.idxOf x = k := by
        have e1 : l = l.take k ++ l.drop k := (List.take_append_drop k l).symm
        rw [e1, List.idxOf_append, if_neg h2, drop_nth hk, ← hb]
        simp; omega
      rw [if_pos hm, e]
      exact Fin.ret ResL.auto
    · refine ⟨k + 1, ⟨by omega, ?_⟩, ?_, ?_⟩
      · intro hm
        rw [take_nth (by omega)] at hm
        rcases List.mem_append.1 hm with hm | hm
        · exact h2 hm
        · exact hb (List.mem_singleton.1 hm)
      · exact Le.auto
      · (try simp only); omega
    · obtain rfl : k = l.length := by omega
      rw [List.take_length] at h2
      rw [if_neg h2]
      exact Fin.ret ResL.auto
theorem containsN_ok (l : List Int) (x : Int) (hl : l.length ≤ 9223372036854775807) : ACalls Try.prog 52 [slI l, cI x] (.pv (cB (decide (x ∈ l)))) := by
  refine ACalls.of_W (qs := [cB (decide (x ∈ l))]) [4] 9 Try.func52 (by kernel_rfl) rfl rfl rfl fun G => ?_
  refine W.initA (hw := ?_)
  repeat' (first
    | apply RG.nil
    | apply Lex.nil
    | apply Then.n
    | apply Then.r
    | apply Then.x
    | apply InBlock.n
    | apply InBlock.r
    | apply InBlock.hit
    | (apply InBlock.miss; exact rfl)
    | apply W.seq
    | apply W.region
    | apply W.block
    | apply W.skip
    | apply W.ret
    | apply W.exit
    | ((first | apply U_); (first
    | exact QX.Move TYok
    | exact QX.Asg TYok
    | exact QX.Bin TYok
    | (apply Q_call (indexN_ok l x hl); exact EvL.auto; exact rfl)); exact rfl)
    | (refine W.condA (ht := fun hb => ?_) (hf := fun hb => ?_) <;> (try simp at hb) <;> (try (exfalso; omega))))
  have e : decide (x ∈ l) = decide ((if x ∈ l then (l.idxOf x : Int) else -1) ≥ 0) := by
    by_cases h : x ∈ l <;> simp [h]
  rw [e]
  exact Fin.ret ResL.auto
def notF (n : Int) : Int := if n = 0 then 1 else if n = 1 then 0 else n
def allF (l : List Int) : Int := if (0 : Int) ∈ l then 0 else if (2 : Int) ∈ l then 2 else 1
def someF (l : List Int) : Int := notF (allF (l.map notF))
def winF (l : List Int) (days lo hi : Int) : List Int :=
  (l.drop (min (max lo 0) days).toNat).take ((min (max (hi + 1) (max lo 0)) days).toNat - (min (max lo 0) days).toNat) ++ if hi ≥ days then [2] else []
theorem not_ok (n : Int) : ACalls Try.prog 39 [cI n] (.pv (cI (notF n))) := by
  refine ACalls.of_W (qs := [cI (notF n)]) [2] 9 Try.func39 (by kernel_rfl) rfl rfl rfl fun G => ?_
  refine W.initA (hw := ?_)
  repeat' (first
    | apply RG.nil
    | apply Lex.nil
    | apply Then.n
    | apply Then.r
    | apply Then.x
    | apply InBlock.n
    | apply InBlock.r
    | apply InBlock.hit
    | (apply InBlock.miss; exact rfl)
    | apply W.seq
    | apply W.region
    | apply W.block
    | apply W.skip
    | apply W.ret
    | apply W.exit
    | ((first | apply U_); (first
    | exact QX.Move TYok
    | exact QX.Asg TYok
    | exact QX.Bin TYok); exact rfl)
    | (apply S_isnil TYok; exact rfl; exact rfl; exact rfl; exact Ev.auto; intro bn hnil)
    | (refine W.condA (ht := fun hb => ?_) (hf := fun hb => ?_) <;> (try simp at hb) <;> (try (exfalso; omega))))
  · rw [notF, if_pos hb]; exact Fin.ret ResL.auto
  · rw [notF, if_neg ‹_›, if_pos hb]; exact Fin.ret ResL.auto
  · rw [notF, if_neg ‹_›, if_neg hb]; exact Fin.ret ResL.auto
theorem alld_ok (l : List Int) (hl : l.length ≤ 1000000) : ACalls Try.prog 40 [slI l] (.pv (cI (allF l))) := by
  refine ACalls.of_W (qs := [cI (allF l)]) [2] 9 Try.func40 (by kernel_rfl) rfl rfl rfl fun G => ?_
  refine W.initA (hw := ?_)
  repeat' (first
    | apply RG.nil
    | apply Lex.nil
    | apply Then.n
    | apply Then.r
    | apply Then.x
    | apply InBlock.n
    | apply InBlock.r
    | apply InBlock.hit
    | (apply InBlock.miss; exact rfl)
    | apply W.seq
    | apply W.region
    | apply W.block
    | apply W.skip
    | apply W.ret
    | apply W.exit
    | ((first | apply U_); (first
    | exact QX.Move TYok
    | exact QX.Asg TYok
    | (apply Q_call (containsN_ok l 0 (by omega)); exact EvL.auto; exact rfl)
    | (apply Q_call (containsN_ok l 2 (by omega)); exact EvL.auto; exact rfl)); exact rfl)
    | (refine W.condA (ht := fun hb => ?_) (hf := fun hb => ?_) <;> (try simp at hb) <;> (try (exfalso; omega))))
  · rw [allF, if_pos hb]; exact Fin.ret ResL.auto
  · rw [allF, if_neg ‹_›, if_pos hb]; exact Fin.ret ResL.auto
  · rw [allF, if_neg ‹_›, if_neg hb]; exact Fin.ret ResL.auto
theorem take_set_nth {α : Type} {m : List α} {k : Nat} {x : α} (h : k < m.length) : (m.set k x).take (k + 1) = m.take k ++ [x] := by
  apply List.ext_getElem?
  intro i
  rw [List.getElem?_take, List.getElem?_append]
  simp only [List.length_take, List.getElem?_set]
  by_cases h1 : i < k
  · rw [if_pos (by omega), if_neg (by omega), if_pos (by omega), List.getElem?_take, if_pos h1]
  · by_cases h2 : i = k
    · subst h2
      rw [if_pos (by omega), if_pos rfl, if_pos h, if_neg (by omega), Nat.min_eq_left (by omega), Nat.sub_self]
      rfl
    · rw [if_neg (by omega), if_neg (by omega)]
      rw [List.getElem?_eq_none (by simp; omega)]
theorem some_ok (l : List Int) (hl : l.length ≤ 1000000) : ACalls Try.prog 41 [slI l] (.pv (cI (someF l))) := by
  refine ACalls.of_W (qs := [cI (someF l)]) [2] 25 Try.func41 (by kernel_rfl) rfl rfl rfl fun G => ?_
  refine W.initA (hw := ?_)
  repeat' (first
    | apply RG.nil
    | apply Lex.nil
    | apply Then.n
    | apply Then.r
    | apply Then.x
    | apply InBlock.n
    | apply InBlock.r
    | apply InBlock.hit
    | (apply InBlock.miss; exact rfl)
    | apply W.seq
    | apply W.region
    | apply W.block
    | apply W.skip
    | apply W.ret
    | apply W.exit
    | ((first | apply U_); (first
    | exact QX.Move TYok
    | exact QX.Asg TYok
    | exact QX.Ld TYok
    | exact QX.Bin TYok
    | exact QX.Len TYok
    | exact QX.Idx TYok); exact rfl)
    | refine SX.Store TYok (h := ?_)
    | refine SX.Make TYok (h := ?_)
    | (refine W.condA (ht := fun hb => ?_) (hf := fun hb => ?_) <;> (try simp at hb) <;> (try (exfalso; omega))))
  apply W.loopP (σ := Nat × List Int) 25 [3, 9, 10] (fun (k, m) => k ≤ l.length ∧ m.length = l.length ∧ m.take k = (l.take k).map notF) (fun (k, m) => [(11, vI k)]) (fun (k, m) => [(8, ⟨3, 1, m.map encI⟩)]) (fun (k, m) => l.length - k) ((0, List.replicate l.length 0))
  case hp => repeat (first | exact Pick.nil | apply Pick.cons rfl)
  case h0 =>
    refine ⟨by simp, ?_⟩
    exact Le.auto
  case round =>
    rintro ⟨k, m⟩ ⟨h1, h2, h3⟩
    apply W.norm (by repeat (first | exact App.nil | apply App.cons))
    dsimp only
    by_cases hk : k < l.length
    · repeat' (first
        | apply RG.nil
        | apply Lex.nil
        | apply Then.n
        | apply Then.r
        | apply Then.x
        | apply InBlock.n
        | apply InBlock.r
        | apply InBlock.hit
        | (apply InBlock.miss; exact rfl)
        | apply W.seq
        | apply W.region
        | apply W.block
        | apply W.skip
        | apply W.ret
        | apply W.exit
        | ((first | apply U_); (first
    | exact QX.Move TYok
    | exact QX.Asg TYok
    | exact QX.Ld TYok
    | exact QX.Bin TYok
    | exact QX.Len TYok
    | exact QX.Idx TYok
    | (apply Q_call (not_ok (nth l k)); exact EvL.auto; exact rfl)); exact rfl)
        | refine SX.Store TYok (h := ?_)
        | refine SX.Make TYok (h := ?_)
        | (refine W.condA (ht := fun hb => ?_) (hf := fun hb => ?_) <;> (try simp at hb) <;> (try (exfalso; omega))))
      refine ⟨(k + 1, m.set k (notF (nth l k))), ⟨by omega, by simp [h2], ?_⟩, ?_, ?_⟩
      · rw [take_set_nth (by omega), h3, take_nth hk]; simp
      · exact Le.auto
      · simp only; omega
    · obtain rfl : k = l.length := by omega
      have e : m = l.map notF := by
        rw [List.take_length, List.take_of_length_le (by omega)] at h3; exact h3
      subst e
      have ha := alld_ok (l.map notF) (by rw [List.length_map]; exact hl)
      repeat' (first
        | apply RG.nil
        | apply Lex.nil
        | apply Then.n
        | apply Then.r
        | apply Then.x
        | apply InBlock.n
        | apply InBlock.r
        | apply InBlock.hit
        | (apply InBlock.miss; exact rfl)
        | apply W.seq
        | apply W.region
        | apply W.block
        | apply W.skip
        | apply W.ret
        | apply W.exit
        | ((first | apply U_); (first
    | exact QX.Move TYok
    | exact QX.Asg TYok
    | exact QX.Ld TYok
    | exact QX.Bin TYok
    | exact QX.Len TYok
    | exact QX.Idx TYok
    | (apply Q_call (ha); exact EvL.auto; exact rfl)
    | (apply Q_call (not_ok (allF (l.map notF))); exact EvL.auto; exact rfl)); exact rfl)
        | refine SX.Store TYok (h := ?_)
        | refine SX.Make TYok (h := ?_)
        | (refine W.condA (ht := fun hb => ?_) (hf := fun hb => ?_) <;> (try simp at hb) <;> (try (exfalso; omega))))
      rw [someF]
      exact Fin.ret ResL.auto
def encR (r : List Int) : List Cell := [.sl (r.map encI)]
abbrev slR (l : List (List Int)) : PV := .one (.sl (l.map encR))
abbrev rowR (ts : List (List Int)) (days : Int) : List Cell := [.sl (ts.map encR), .int .i64 days]
theorem window_ok (ts : List (List Int)) (l : List Int) (days lo hi : Int) (h0 : 0 ≤ days) (hd : (l.length : Int) = days) (hl : l.length ≤ 1000000) (h1 : -1000000 ≤ lo ∧ lo ≤ 1000000) (h2 : -1000000 ≤ hi ∧ hi ≤ 1000000) : OCalls Try.prog 42 [.one (.ptr (rowR ts days)), slI l, cI lo, cI hi] 3 1 ((winF l days lo hi).map encI) := by
  have hc := cloneI_ok ((l.drop (min (max lo 0) days).toNat).take ((min (max (hi + 1) (max lo 0)) days).toNat - (min (max lo 0) days).toNat)) (by simp; omega)
  refine OCalls.of_W 8 40 Try.func42 (by kernel_rfl) rfl rfl rfl rfl fun G => ?_
  refine W.initA (hw := ?_)
  repeat' (first
    | apply RG.nil
    | apply Lex.nil
    | apply Then.n
    | apply Then.r
    | apply Then.x
    | apply InBlock.n
    | apply InBlock.r
    | apply InBlock.hit
    | (apply InBlock.miss; exact rfl)
    | apply W.seq
    | apply W.region
    | apply W.block
    | apply W.skip
    | apply W.ret
    | apply W.exit
    | (apply W.draw2 (id := 1) [0, 0, 2, 0, 8, 24, 56, 126, 0, 256, 0, 1024, 3840, 0, 8192, 24576, 57344, 130816, 262143, 524287, 1048575] [[1], [2], [11], [0], [13], [14], [15], [12, 16], [3], [18], [2], [20], [19, 21], [0], [23], [24], [25], [22, 26], [10, 17, 27]] 19 [(10, 2), (11, 4), (12, 2048), (13, 1), (14, 8192), (15, 16384), (16, 32768), (17, 69632), (18, 8), (19, 262144), (20, 4), (21, 1048576), (22, 2621440), (23, 1), (24, 8388608), (25, 16777216), (26, 33554432), (27, 71303168), (28, 134349824)] mixed (by kernel_rfl) rfl rfl)
    | ((first | apply U_ | apply Lex.u | (apply Lex.g; exact rfl; exact rfl) | (apply Lex.gq; exact rfl; exact rfl)); (first
    | exact QX.Nil TYok
    | exact QX.Move TYok
    | exact QX.Asg TYok
    | exact QX.Fld TYok
    | exact QX.Ld TYok
    | exact QX.Bin TYok
    | exact QX.Num TYok
    | exact QX.Cut TYok); exact rfl)
    | refine SX.Lit TYok (h := ?_)
    | refine SX.App TYok (h := ?_)
    | (apply S_callo (hc); exact rfl; exact rfl; exact rfl; exact EvD.auto)
    | (refine W.condA (ht := fun hb => ?_) (hf := fun hb => ?_) <;> (try simp at hb) <;> (try (exfalso; omega))))
  · rw [winF, if_pos hb]
    exact FinO.ret rfl rfl (by simp only [List.map_append]; rfl)
  · rw [winF, if_neg (by omega), List.append_nil]
    exact FinO.ret rfl rfl rfl
theorem win_len {l : List Int} {days lo hi : Int} (hl : l.length ≤ 100000) : (winF l days lo hi).length ≤ 1000000 := by
  unfold winF
  split <;> simp <;> omega
end Go.Proofs.Ytacilhkipekjlaa
