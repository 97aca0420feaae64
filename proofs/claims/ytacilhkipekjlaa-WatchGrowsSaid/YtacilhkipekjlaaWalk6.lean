/-
  Copies.
-/
import Derived.Test.YtacilhkipekjlaaWalk5
set_option linter.unusedVariables false
set_option linter.unusedSimpArgs false
set_option maxHeartbeats 8000000
namespace Go.Proofs.Ytacilhkipekjlaa
open Lf Go
attribute [local irreducible] PureOp EffOp Ev RG W Then InBlock Lf.Fin nth App InitE Pick SubE SubF SubG EvL EvD EvP EvR ResL Lf.Lex SubR SubBR RA RAll EvC FinO FinM ResM FinB ResD

/-! ### copies -/
theorem cloneE_ok (l : List Exp) (hl : l.length ≤ 1000000) : OCalls Try.prog 51 [slE l] 24 5 (l.map encX) := by
  refine OCalls.of_W 2 8 Try.func51 (by kernel_rfl) rfl rfl rfl rfl fun G => ?_
  refine W.initA (hw := ?_)
  repeat' (first
    | apply RG.nil
    | apply Lex.nil
    | apply Then.n
    | apply Then.r
    | apply Then.x
    | apply InBlock.n
    | apply InBlock.r
    | apply InBlock.hit
    | (apply InBlock.miss; exact rfl)
    | apply W.seq
    | apply W.region
    | apply W.block
    | apply W.skip
    | apply W.ret
    | apply W.exit
    | ((first | apply U_); (first
    | exact QX.Move TYok
    | exact QX.Asg TYok
    | exact QX.Bin TYok); exact rfl)
    | refine SX.Lit TYok (h := ?_)
    | refine SX.App TYok (h := ?_)
    | (apply S_isnil TYok; exact rfl; exact rfl; exact rfl; exact Ev.auto; intro bn hnil)
    | (refine W.condA (ht := fun hb => ?_) (hf := fun hb => ?_) <;> (try simp at hb) <;> (try (exfalso; omega))))
  · exact FinO.nil rfl (hnil hb)
  · exact FinO.ret rfl rfl (by simp)
theorem cloneI_ok (l : List Int) (hl : l.length ≤ 1000000) : OCalls Try.prog 38 [slI l] 3 1 (l.map encI) := by
  refine OCalls.of_W 2 8 Try.func38 (by kernel_rfl) rfl rfl rfl rfl fun G => ?_
  refine W.initA (hw := ?_)
  repeat' (first
    | apply RG.nil
    | apply Lex.nil
    | apply Then.n
    | apply Then.r
    | apply Then.x
    | apply InBlock.n
    | apply InBlock.r
    | apply InBlock.hit
    | (apply InBlock.miss; exact rfl)
    | apply W.seq
    | apply W.region
    | apply W.block
    | apply W.skip
    | apply W.ret
    | apply W.exit
    | ((first | apply U_); (first
    | exact QX.Move TYok
    | exact QX.Asg TYok
    | exact QX.Bin TYok); exact rfl)
    | refine SX.Lit TYok (h := ?_)
    | refine SX.App TYok (h := ?_)
    | (apply S_isnil TYok; exact rfl; exact rfl; exact rfl; exact Ev.auto; intro bn hnil)
    | (refine W.condA (ht := fun hb => ?_) (hf := fun hb => ?_) <;> (try simp at hb) <;> (try (exfalso; omega))))
  · exact FinO.nil rfl (hnil hb)
  · exact FinO.ret rfl rfl (by simp)
inductive ArE : Exp → Prop
  | mk {op n u : Int} {s : Str} {l : List Exp} (hl : l.length ≤ 3) (h : ∀ x ∈ l, ArE x) : ArE (.mk op n u s l)
theorem copied_ok (e : Exp) : OkE e → ArE e → ACalls Try.prog 34 [aE e] (.pv (aE e)) := by
  refine Exp.ind (P := fun e => OkE e → ArE e → ACalls Try.prog 34 [aE e] (.pv (aE e))) (fun op n u s l ih he ha => ?_) e
  cases he with
  | mk hs hl h =>
  cases ha with
  | mk hl3 h3 =>
  have hm := aE_mk op n u s l
  rw [hm]
  refine ACalls.of_M TYok (qs := [.agg [.int .i64 op, .int .i64 n, .int .i64 u, .str s, .sl (l.map encX)]]) [.cell 2 24] 26 Try.func34 (by kernel_rfl) rfl rfl rfl fun G => W.fin ?_
  refine W.initA (hw := ?_)
  repeat' (first
    | apply RG.nil
    | apply Lex.nil
    | apply Then.n
    | apply Then.r
    | apply Then.x
    | apply InBlock.n
    | apply InBlock.r
    | apply InBlock.hit
    | (apply InBlock.miss; exact rfl)
    | apply W.seq
    | apply W.region
    | apply W.block
    | apply W.skip
    | apply W.ret
    | apply W.exit
    | (apply W.draw2 (id := 5) [0, 1, 0, 0, 8, 0, 56, 120, 248, 511, 1023] [[1], [14], [3], [1], [17], [3], [18, 19], [20], [21], [15, 16]] 10 [(14, 2), (15, 16384), (16, 8), (17, 2), (18, 131072), (19, 8), (20, 786432), (21, 1048576), (22, 2097152), (23, 98304)] mixed (by kernel_rfl) rfl rfl)
    | ((first | apply U_ | apply Lex.u | (apply Lex.g; exact rfl; exact rfl) | (apply Lex.gq; exact rfl; exact rfl)); (first
    | exact QX.Move TYok
    | exact QX.Asg TYok
    | exact QX.Fld TYok
    | exact QX.Ld TYok
    | exact QX.Bin TYok
    | exact QX.Len TYok
    | exact QX.Idx TYok); exact rfl)
    | refine SX.Alloc TYok (h := ?_)
    | refine SX.Store TYok (h := ?_)
    | refine SX.Box TYok (h := ?_)
    | (apply S_callo (cloneE_ok l (by omega)); exact rfl; exact rfl; exact rfl; exact EvD.auto)
    | (refine W.condA (ht := fun hb => ?_) (hf := fun hb => ?_) <;> (try simp at hb) <;> (try (exfalso; omega))))
  apply RG.place (t := 6) rfl rfl
  · intro b c
    repeat' (first
      | apply RG.nil
      | apply Lex.nil
      | apply Then.n
      | apply Then.r
      | apply Then.x
      | apply InBlock.n
      | apply InBlock.r
      | apply InBlock.hit
      | (apply InBlock.miss; exact rfl)
      | apply W.seq
      | apply W.region
      | apply W.block
      | apply W.skip
      | apply W.ret
      | apply W.exit
      | (apply W.draw2 (id := 5) [0, 1, 0, 0, 8, 0, 56, 120, 248, 511, 1023] [[1], [14], [3], [1], [17], [3], [18, 19], [20], [21], [15, 16]] 10 [(14, 2), (15, 16384), (16, 8), (17, 2), (18, 131072), (19, 8), (20, 786432), (21, 1048576), (22, 2097152), (23, 98304)] mixed (by kernel_rfl) rfl rfl)
      | ((first | apply U_ | apply Lex.u | (apply Lex.g; exact rfl; exact rfl) | (apply Lex.gq; exact rfl; exact rfl)); (first
    | (apply Q_loadO TYok (tt := 6); exact rfl; exact rfl; exact rfl; exact rfl; exact rfl; exact rfl; exact Ev.auto; exact rfl; exact rfl; exact rfl; (first | exact rfl | (focus (simp; done))))
    | exact QX.Move TYok
    | exact QX.Asg TYok
    | exact QX.Fld TYok
    | exact QX.Ld TYok
    | exact QX.Bin TYok
    | exact QX.Len TYok
    | exact QX.Idx TYok); exact rfl)
      | refine SX.Alloc TYok (h := ?_)
      | refine SX.Store TYok (h := ?_)
      | refine SX.Box TYok (h := ?_)
      | (apply S_storeO TYok; exact Ev.auto; exact rfl; exact rfl; exact rfl; exact rfl; exact rfl; exact rfl; exact rfl; (first | (focus (simp; done)) | exact Nat.le_of_ble_eq_true rfl))
      | (refine W.condA (ht := fun hb => ?_) (hf := fun hb => ?_) <;> (try simp at hb) <;> (try (exfalso; omega))))
    apply W.loopP (σ := Nat) 26 [1, 2, 10, 6] (fun k => k ≤ l.length) (fun k => [(11, vI k)]) (fun _ => [(1, ⟨24, 5, [[.int .i64 op, .int .i64 n, .int .i64 u, .str s, .sla b (l.map encX).length c]]⟩), (2, ⟨24, 5, [[.int .i64 0, .int .i64 0, .int .i64 0, .str [], .slnil]]⟩), (6, ⟨24, 5, l.map encX⟩)]) (fun k => l.length - k) (0)
    case hp => repeat (first | exact Pick.nil | apply Pick.cons rfl)
    case h0 =>
      refine ⟨by simp, ?_⟩
      exact Le.auto
    case round =>
      rintro k h1
      apply W.norm (by repeat (first | exact App.nil | apply App.cons))
      by_cases hk : k < l.length
      · repeat' (first
          | apply RG.nil
          | apply Lex.nil
          | apply Then.n
          | apply Then.r
          | apply Then.x
          | apply InBlock.n
          | apply InBlock.r
          | apply InBlock.hit
          | (apply InBlock.miss; exact rfl)
          | apply W.seq
          | apply W.region
          | apply W.block
          | apply W.skip
          | apply W.ret
          | apply W.exit
          | (apply W.draw2 (id := 5) [0, 1, 0, 0, 8, 0, 56, 120, 248, 511, 1023] [[1, 6], [14, 6], [3, 6], [1, 6], [17, 6], [3, 6], [18, 19, 6], [20, 6], [21, 6], [15, 16, 6]] 10 [(14, 2), (15, 16384), (16, 8), (17, 2), (18, 131072), (19, 8), (20, 786432), (21, 1048576), (22, 2097152), (23, 98304)] mixed (by kernel_rfl) rfl rfl)
          | ((first | apply U_ | apply Lex.u | (apply Lex.g; exact rfl; exact rfl) | (apply Lex.gq; exact rfl; exact rfl)); (first
    | (apply Q_loadO TYok (tt := 6); exact rfl; exact rfl; exact rfl; exact rfl; exact rfl; exact rfl; exact Ev.auto; exact rfl; exact rfl; exact rfl; (first | exact rfl | (focus (simp; done))))
    | exact QX.Move TYok
    | exact QX.Asg TYok
    | exact QX.Fld TYok
    | exact QX.Ld TYok
    | exact QX.Bin TYok
    | exact QX.Len TYok
    | exact QX.Idx TYok
    | (apply Q_calld (ih (nth l k) (nth_mem hk) (h _ (nth_mem hk)) (h3 _ (nth_mem hk))); exact EvD.auto)); exact rfl)
          | refine SX.Alloc TYok (h := ?_)
          | refine SX.Store TYok (h := ?_)
          | refine SX.Box TYok (h := ?_)
          | (apply S_storeO TYok; exact Ev.auto; exact rfl; exact rfl; exact rfl; exact rfl; exact rfl; exact rfl; exact rfl; (first | (focus (simp; done)) | exact Nat.le_of_ble_eq_true rfl))
          | (refine W.condA (ht := fun hb => ?_) (hf := fun hb => ?_) <;> (try simp at hb) <;> (try (exfalso; omega))))
        have hset : l.set k (nth l k) = l := by rw [nth_eq hk]; exact List.set_getElem_self hk

        have hset2 : (l.map encX).set k (encX (nth l k)) = l.map encX := by rw [← List.map_set, hset]
        refine ⟨k + 1, by omega, ?_, ?_⟩
        · exact Le.auto
        · (try simp only); omega
      · obtain rfl : k = l.length := by omega
        repeat' (first
          | apply RG.nil
          | apply Lex.nil
          | apply Then.n
          | apply Then.r
          | apply Then.x
          | apply InBlock.n
          | apply InBlock.r
          | apply InBlock.hit
          | (apply InBlock.miss; exact rfl)
          | apply W.seq
          | apply W.region
          | apply W.block
          | apply W.skip
          | apply W.ret
          | apply W.exit
          | (apply W.draw2 (id := 5) [0, 1, 0, 0, 8, 0, 56, 120, 248, 511, 1023] [[1], [14], [3], [1], [17], [3], [18, 19], [20], [21], [15, 16]] 10 [(14, 2), (15, 16384), (16, 8), (17, 2), (18, 131072), (19, 8), (20, 786432), (21, 1048576), (22, 2097152), (23, 98304)] mixed (by kernel_rfl) rfl rfl)
          | ((first | apply U_ | apply Lex.u | (apply Lex.g; exact rfl; exact rfl) | (apply Lex.gq; exact rfl; exact rfl)); (first
    | (apply Q_loadO TYok (tt := 6); exact rfl; exact rfl; exact rfl; exact rfl; exact rfl; exact rfl; exact Ev.auto; exact rfl; exact rfl; exact rfl; (first | exact rfl | (focus (simp; done))))
    | exact QX.Move TYok
    | exact QX.Asg TYok
    | exact QX.Fld TYok
    | exact QX.Ld TYok
    | exact QX.Bin TYok
    | exact QX.Len TYok
    | exact QX.Idx TYok); exact rfl)
          | refine SX.Alloc TYok (h := ?_)
          | refine SX.Store TYok (h := ?_)
          | refine SX.Box TYok (h := ?_)
          | (apply S_storeO TYok; exact Ev.auto; exact rfl; exact rfl; exact rfl; exact rfl; exact rfl; exact rfl; exact rfl; (first | (focus (simp; done)) | exact Nat.le_of_ble_eq_true rfl))
          | (refine W.condA (ht := fun hb => ?_) (hf := fun hb => ?_) <;> (try simp at hb) <;> (try (exfalso; omega))))
        exact ⟨_, Le.freezeK (row' := [.int .i64 op, .int .i64 n, .int .i64 u, .str s, .sl (l.map encX)]) (m := 2) (t := 6) (n := 6) rfl rfl rfl rfl rfl (by decide) (by exact ⟨.refl _, .refl _, .refl _, .refl _, .sla, trivial⟩), FinM.ret ResM.auto⟩
  · intro h0
    have hl0 : l = [] := List.map_eq_nil_iff.1 h0
    subst hl0
    repeat' (first
      | apply RG.nil
      | apply Lex.nil
      | apply Then.n
      | apply Then.r
      | apply Then.x
      | apply InBlock.n
      | apply InBlock.r
      | apply InBlock.hit
      | (apply InBlock.miss; exact rfl)
      | apply W.seq
      | apply W.region
      | apply W.block
      | apply W.skip
      | apply W.ret
      | apply W.exit
      | (apply W.draw2 (id := 5) [0, 1, 0, 0, 8, 0, 56, 120, 248, 511, 1023] [[1], [14], [3], [1], [17], [3], [18, 19], [20], [21], [15, 16]] 10 [(14, 2), (15, 16384), (16, 8), (17, 2), (18, 131072), (19, 8), (20, 786432), (21, 1048576), (22, 2097152), (23, 98304)] mixed (by kernel_rfl) rfl rfl)
      | ((first | apply U_ | apply Lex.u | (apply Lex.g; exact rfl; exact rfl) | (apply Lex.gq; exact rfl; exact rfl)); (first
    | exact QX.Move TYok
    | exact QX.Asg TYok
    | exact QX.Fld TYok
    | exact QX.Ld TYok
    | exact QX.Bin TYok
    | exact QX.Len TYok
    | exact QX.Idx TYok); exact rfl)
      | refine SX.Alloc TYok (h := ?_)
      | refine SX.Store TYok (h := ?_)
      | refine SX.Box TYok (h := ?_)
      | (apply S_storeO TYok; exact Ev.auto; exact rfl; exact rfl; exact rfl; exact rfl; exact rfl; exact rfl; exact rfl; (first | (focus (simp; done)) | exact Nat.le_of_ble_eq_true rfl))
      | (refine W.condA (ht := fun hb => ?_) (hf := fun hb => ?_) <;> (try simp at hb) <;> (try (exfalso; omega))))
    apply W.loopP (σ := Nat) 26 [1, 2, 10] (fun k => k = 0) (fun k => [(11, vI k)]) (fun _ => [(1, ⟨24, 5, [[.int .i64 op, .int .i64 n, .int .i64 u, .str s, .slnil]]⟩), (2, ⟨24, 5, [[.int .i64 0, .int .i64 0, .int .i64 0, .str [], .slnil]]⟩)]) (fun k => 1 - k) (0)
    case hp => repeat (first | exact Pick.nil | apply Pick.cons rfl)
    case h0 =>
      refine ⟨rfl, ?_⟩
      exact Le.auto
    case round =>
      rintro k rfl
      apply W.norm (by repeat (first | exact App.nil | apply App.cons))
      repeat' (first
        | apply RG.nil
        | apply Lex.nil
        | apply Then.n
        | apply Then.r
        | apply Then.x
        | apply InBlock.n
        | apply InBlock.r
        | apply InBlock.hit
        | (apply InBlock.miss; exact rfl)
        | apply W.seq
        | apply W.region
        | apply W.block
        | apply W.skip
        | apply W.ret
        | apply W.exit
        | (apply W.draw2 (id := 5) [0, 1, 0, 0, 8, 0, 56, 120, 248, 511, 1023] [[1], [14], [3], [1], [17], [3], [18, 19], [20], [21], [15, 16]] 10 [(14, 2), (15, 16384), (16, 8), (17, 2), (18, 131072), (19, 8), (20, 786432), (21, 1048576), (22, 2097152), (23, 98304)] mixed (by kernel_rfl) rfl rfl)
        | ((first | apply U_ | apply Lex.u | (apply Lex.g; exact rfl; exact rfl) | (apply Lex.gq; exact rfl; exact rfl)); (first
    | exact QX.Move TYok
    | exact QX.Asg TYok
    | exact QX.Fld TYok
    | exact QX.Ld TYok
    | exact QX.Bin TYok
    | exact QX.Len TYok
    | exact QX.Idx TYok); exact rfl)
        | refine SX.Alloc TYok (h := ?_)
        | refine SX.Store TYok (h := ?_)
        | refine SX.Box TYok (h := ?_)
        | (refine W.condA (ht := fun hb => ?_) (hf := fun hb => ?_) <;> (try simp at hb) <;> (try (exfalso; omega))))
      refine ⟨_, Le.refl, FinM.ret (ResM.cell rfl rfl rfl rfl ?_ ResM.nil)⟩
      show LSub [_, _, _, _, _] [_, _, _, _, _]
      exact ⟨.refl _, .refl _, .refl _, .refl _, .nil, trivial⟩
end Go.Proofs.Ytacilhkipekjlaa
