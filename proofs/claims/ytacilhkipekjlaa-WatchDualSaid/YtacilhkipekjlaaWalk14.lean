/-
  The reference: play
-/
import Derived.Test.YtacilhkipekjlaaWalk13
set_option linter.unusedVariables false
set_option linter.unusedSimpArgs false
set_option maxHeartbeats 8000000
namespace Go.Proofs.Ytacilhkipekjlaa
open Lf Go
attribute [local irreducible] PureOp EffOp Ev RG W Then InBlock Lf.Fin nth App InitE Pick SubE SubF SubG EvL EvD EvP EvR ResL Lf.Lex SubR SubBR RA RAll EvC FinO FinM ResM FinB ResD

/-! ### the reference's play -/
mutual
theorem nodeF_take (days : Int) : ∀ (e : Exp) (ts : List (List Int)) (m : Nat), (listF e).length ≤ m → nodeF days e (ts.take m) = nodeF days e ts
  | .mk op n u s l, ts, m, h => by
    rw [nodeF, nodeF]
    cases hf : framedF op with
    | true =>
      rw [listF, hf] at h
      simp only [if_true] at h ⊢
      rw [nodesF_take' days l ts m h]
    | false =>
      rw [listF, hf] at h
      simp at h ⊢
      simp only [nth, List.getD]
      rw [List.getElem?_take, if_pos (by omega)]
theorem nodesF_take' (days : Int) : ∀ (l : List Exp) (ts : List (List Int)) (m : Nat), (listFs l).length ≤ m → nodesF days l (ts.take m) = nodesF days l ts
  | [], ts, m, h => by simp [nodesF]
  | e :: r, ts, m, h => by
    rw [listFs, List.length_append] at h
    rw [nodesF, nodesF, nodeF_take days e ts m (by omega), List.drop_take, nodesF_take' days r (ts.drop (listF e).length) (m - (listF e).length) (by omega)]
end
theorem allF_v3 {l : List Int} : 0 ≤ allF l ∧ allF l ≤ 2 := by unfold allF; (repeat' split) <;> omega
theorem someF_v3 {l : List Int} : 0 ≤ someF l ∧ someF l ≤ 2 := notF_v3 allF_v3
theorem winF_v3 {r : List Int} (h : V3 r) (days lo hi : Int) : V3 (winF r days lo hi) := by
  intro x hx
  rcases List.mem_append.1 hx with q | q
  · exact h x (List.mem_of_mem_drop (List.mem_of_mem_take q))
  · split at q
    · rw [List.mem_singleton.1 q]; omega
    · cases q
mutual
theorem nodeF_v3 {d : Nat} {days : Int} : ∀ (e : Exp) (ts : List (List Int)), rightF d e = true → 0 ≤ days → Rows days ts → (∀ r ∈ ts, V3 r) → (listF e).length ≤ ts.length → V3 (nodeF days e ts)
  | .mk op n u s l, ts, hr, h0, hts, hv, hl => by
    match d, hr with
    | 0, hr => simp [rightF] at hr
    | d + 1, hr =>
    rw [nodeF]
    cases hf : framedF op with
    | false =>
      rw [listF, hf] at hl
      simp at hl ⊢
      exact hv _ (nth_mem hl)
    | true =>
      obtain ⟨g1, g2, g3, g4, g5, g6⟩ := right_framed hr hf
      rw [listF, hf] at hl
      simp only [if_true] at hl ⊢
      have hA : (nodesF days l ts).length = l.length := nodesF_len days l ts
      have hR : Rows days (nodesF days l ts) := nodesF_rows h0 hts hl
      have hV := nodesF_v3 (d := d) l ts g3 h0 hts hv hl
      intro x hx
      obtain ⟨k, hk, rfl⟩ := List.mem_map.1 hx
      have hk := List.mem_range.1 hk
      generalize nodesF days l ts = args at hA hR hV ⊢
      unfold valF
      split
      · have h1 := hR _ (nth_mem (l := args) (k := 0) (by omega))
        rw [nth_map (by omega)]
        exact notF_v3 (hV _ (nth_mem (l := args) (k := 0) (by omega)) _ (nth_mem (l := nth args 0) (k := k) (by omega)))
      · (repeat' split) <;> first | exact allF_v3 | exact someF_v3
theorem nodesF_v3 {d : Nat} {days : Int} : ∀ (l : List Exp) (ts : List (List Int)), (∀ x ∈ l, rightF d x = true) → 0 ≤ days → Rows days ts → (∀ r ∈ ts, V3 r) → (listFs l).length ≤ ts.length → ∀ r ∈ nodesF days l ts, V3 r
  | [], ts, _, _, _, _, _ => by intro r hr; simp [nodesF] at hr
  | e :: r, ts, hr, h0, hts, hv, hl => by
    rw [listFs, List.length_append] at hl
    intro x hx
    rw [nodesF] at hx
    rcases List.mem_cons.1 hx with rfl | hx
    · exact nodeF_v3 e ts (hr e (by simp)) h0 hts hv (by omega)
    · exact nodesF_v3 r (ts.drop (listF e).length) (fun y hy => hr y (List.mem_cons_of_mem _ hy)) h0 (hts.drop _) (fun y hy => hv y (List.mem_of_mem_drop hy)) (by simp; omega) x hx
end
def leaf : Exp := .mk 2 0 0 [] []
def leafN : List Cell := [.int .i64 2, .int .i64 0, .int .i64 0, .str [], .slnil]
theorem leaf_unf {k : Nat} : ∀ x ∈ List.replicate k leaf, framedF x.op = false := by
  intro x hx
  rw [List.eq_of_mem_replicate hx]; decide
theorem leaf_okE {k : Nat} : ∀ x ∈ List.replicate k leaf, OkE x := by
  intro x hx
  rw [List.eq_of_mem_replicate hx]
  exact .mk (by simp) (by simp) (fun x hx => by cases hx)
/-- the reference's day of a flat node -/
theorem flat_ok {op n : Int} (args : List (List Int)) (days : Int) (d : Nat) (hr : Rows days args) (hv : ∀ r ∈ args, V3 r) (hd : (d : Int) < days) (hb0 : days ≤ 1000) (hop : op = 12 ∨ op = 13 ∨ op = 14 ∨ op = 16 ∨ op = 17 ∨ op = 18)
    (h1 : op = 12 ∨ op = 16 ∨ op = 17 ∨ op = 18 → args.length = 1) (h2 : args.length ≤ 2) (hn : op = 16 ∨ op = 17 ∨ op = 18 → 1 ≤ n ∧ n ≤ 1000) :
    ACalls Try.prog 45 [.agg [.int .i64 op, .int .i64 n, .int .i64 0, .str [], .sl ((List.replicate args.length leaf).map encX)], slR args, cI 0, cI days, cI d] (.pv (cI (valF days op n args d))) := by
  have hs : ([] : Str).length ≤ 9223372036854775807 := by simp
  rcases hop with rfl | rfl | rfl | rfl | rfl | rfl
  · have := flat12 (n := n) (u := 0) (leaf_unf (k := args.length)) args days d hr hv hd hb0 hs (by simpa using h1 (by omega)) (h1 (by omega))
    rw [show valF days 12 n args d = notF (nth (args.map fun r => nth r d) 0) by unfold valF; rw [if_pos rfl]]
    exact this
  · have := flat13 (n := n) (u := 0) (leaf_unf (k := args.length)) args days d hr hv hd hb0 hs leaf_okE (by simp) (by omega)
    rw [show valF days 13 n args d = allF (args.map fun r => nth r d) by unfold valF; rw [if_neg (by decide), if_pos rfl]]
    exact this
  · have := flat14 (n := n) (u := 0) (leaf_unf (k := args.length)) args days d hr hv hd hb0 hs leaf_okE (by simp) (by omega)
    rw [show valF days 14 n args d = someF (args.map fun r => nth r d) by unfold valF; rw [if_neg (by decide), if_neg (by decide), if_pos rfl]]
    exact this
  · have hl := h1 (by omega)
    have hq := hr _ (nth_mem (l := args) (k := 0) (by omega))
    have := flat16 (n := n) (u := 0) (leaf_unf (k := args.length)) args days d hr hv hd hb0 hs (hn (by omega)) (by simpa using hl) hl
    rw [hq] at this
    rw [show valF days 16 n args d = someF (winF (nth args 0) days ((d : Int) - n + 1) d) by unfold valF; rw [if_neg (by decide), if_neg (by decide), if_neg (by decide), if_pos rfl]]
    exact this
  · have hl := h1 (by omega)
    have hq := hr _ (nth_mem (l := args) (k := 0) (by omega))
    have := flat17 (n := n) (u := 0) (leaf_unf (k := args.length)) args days d hr hv hd hb0 hs (hn (by omega)) (by simpa using hl) hl
    rw [hq] at this
    rw [show valF days 17 n args d = allF (winF (nth args 0) days ((d : Int) - n + 1) d) by unfold valF; rw [if_neg (by decide), if_neg (by decide), if_neg (by decide), if_neg (by decide), if_pos rfl]]
    exact this
  · have hl := h1 (by omega)
    have hq := hr _ (nth_mem (l := args) (k := 0) (by omega))
    have := flat18 (n := n) (u := 0) (leaf_unf (k := args.length)) args days d hr hv hd hb0 hs (hn (by omega)) (by simpa using hl) hl
    rw [hq] at this
    rw [show valF days 18 n args d = someF (winF (nth args 0) days d ((d : Int) + n - 1)) by unfold valF; rw [if_neg (by decide), if_neg (by decide), if_neg (by decide), if_neg (by decide), if_neg (by decide)]]
    exact this
theorem play_ok : ∀ (d : Nat) (e : Exp) (ts : List (List Int)) (days : Int), rightF d e = true → OkE e → 0 ≤ days → days ≤ 1000 → Rows days ts → (∀ r ∈ ts, V3 r) → ts.length ≤ 1000000 → (listF e).length ≤ ts.length → ACalls Try.prog 29 [aE e, slR ts, cI days] (.pv (slI (nodeF days e ts)))
  | 0, .mk op n u s l, ts, days, hr, _, _, _, _, _, _, _ => by simp [rightF] at hr
  | d + 1, .mk op n u s l, ts, days, hr, he, h0, h1, hts, hvs, htl, hll => by
    cases he with
    | mk hs hl h =>
    rw [aE_mk]
    cases hf : framedF op with
    | false =>
      have hrf := rframed_ok op
      rw [hf] at hrf
      rw [listF, hf] at hll
      rw [nodeF, hf]
      simp only [Bool.false_eq_true, if_false, List.length_cons, List.length_nil, Nat.zero_add] at hll ⊢
      have hpos : 0 < ts.length := by omega
      have hrow := hts _ (nth_mem hpos)
      refine ACalls.of_W (qs := [slI (nth ts 0)]) [6] 85 Try.func29 (by kernel_rfl) rfl rfl rfl fun G => ?_
      refine W.initA (hw := ?_)
      repeat' (first
        | apply RG.nil
        | apply Lex.nil
        | apply Then.n
        | apply Then.r
        | apply Then.x
        | apply InBlock.n
        | apply InBlock.r
        | apply InBlock.hit
        | (apply InBlock.miss; exact rfl)
        | apply W.seq
        | apply W.region
        | apply W.block
        | apply W.skip
        | apply W.ret
        | apply W.exit
        | (apply W.draw2 (id := 10) [0, 1, 0, 7, 15, 0, 0, 0, 0, 384, 992, 0, 4095, 8191] [[3], [44], [10], [45, 46], [47], [1], [9], [9], [11], [51, 52], [49, 50, 53], [2], [48, 54, 55], [56]] 14 [(44, 8), (45, 17592186044416), (46, 1024), (47, 105553116266496), (48, 140737488355328), (49, 2), (50, 512), (51, 512), (52, 2048), (53, 6755399441055744), (54, 10696049115004928), (55, 4), (56, 54324670505156608), (12, 72057594037927936)] mixed (by kernel_rfl) rfl rfl)
        | ((first | apply U_ | apply Lex.u | (apply Lex.g; exact rfl; exact rfl) | (apply Lex.gq; exact rfl; exact rfl)); (first
    | exact QX.Move TYok
    | exact QX.Asg TYok
    | exact QX.Fld TYok
    | exact QX.Ld TYok
    | exact QX.Bin TYok
    | exact QX.Un TYok
    | exact QX.Len TYok
    | exact QX.Idx TYok
    | exact QX.Build TYok
    | exact QX.Cut TYok
    | (apply Q_call (hrf); exact EvL.auto; exact rfl)); exact rfl)
        | refine SX.Alloc TYok (h := ?_)
        | refine SX.Store TYok (h := ?_)
        | refine SX.Lit TYok (h := ?_)
        | refine SX.App TYok (h := ?_)
        | refine SX.Box TYok (h := ?_)
        | (refine W.condA (ht := fun hb => ?_) (hf := fun hb => ?_) <;> (try simp at hb) <;> (try (exfalso; omega))))
      exact Fin.ret ResL.auto
    | true =>
      have hrf := rframed_ok op
      rw [hf] at hrf
      have hrf := right_framed hr hf
      obtain ⟨g1, g2, g3, g4, g5, g6⟩ := hrf
      rw [listF, hf] at hll
      rw [nodeF, hf]
      simp only [if_true] at hll ⊢
      have hrf := rframed_ok op
      rw [hf] at hrf
      refine ACalls.of_W (qs := [slI ((List.range days.toNat).map (valF days op n (nodesF days l ts)))]) [6] 85 Try.func29 (by kernel_rfl) rfl rfl rfl fun G => ?_
      refine W.initA (hw := ?_)
      repeat' (first
        | apply RG.nil
        | apply Lex.nil
        | apply Then.n
        | apply Then.r
        | apply Then.x
        | apply InBlock.n
        | apply InBlock.r
        | apply InBlock.hit
        | (apply InBlock.miss; exact rfl)
        | apply W.seq
        | apply W.region
        | apply W.block
        | apply W.skip
        | apply W.ret
        | apply W.exit
        | (apply W.draw2 (id := 10) [0, 1, 0, 7, 15, 0, 0, 0, 0, 384, 992, 0, 4095, 8191] [[3], [44], [10], [45, 46], [47], [1], [9], [9], [11], [51, 52], [49, 50, 53], [2], [48, 54, 55], [56]] 14 [(44, 8), (45, 17592186044416), (46, 1024), (47, 105553116266496), (48, 140737488355328), (49, 2), (50, 512), (51, 512), (52, 2048), (53, 6755399441055744), (54, 10696049115004928), (55, 4), (56, 54324670505156608), (12, 72057594037927936)] mixed (by kernel_rfl) rfl rfl)
        | ((first | apply U_ | apply Lex.u | (apply Lex.g; exact rfl; exact rfl) | (apply Lex.gq; exact rfl; exact rfl)); (first
    | exact QX.Move TYok
    | exact QX.Asg TYok
    | exact QX.Fld TYok
    | exact QX.Ld TYok
    | exact QX.Bin TYok
    | exact QX.Un TYok
    | exact QX.Len TYok
    | exact QX.Idx TYok
    | exact QX.Build TYok
    | exact QX.Cut TYok
    | (apply Q_call (hrf); exact EvL.auto; exact rfl)); exact rfl)
        | refine SX.Alloc TYok (h := ?_)
        | refine SX.Store TYok (h := ?_)
        | refine SX.Lit TYok (h := ?_)
        | refine SX.App TYok (h := ?_)
        | refine SX.Box TYok (h := ?_)
        | (refine W.condA (ht := fun hb => ?_) (hf := fun hb => ?_) <;> (try simp at hb) <;> (try (exfalso; omega))))
      refine W.weaken (Le.nilOwn (t := 8) (n := 60) (E := 29) (sz := 1) rfl) ?_
      apply W.loopP (σ := Nat × Nat × Nat) 85 [3, 7] (fun (k, b, c) => k ≤ l.length) (fun (k, b, c) => (match k with | 0 => [(1, (True, .pv (slR ts))), (2, (True, .pv (cI days))), (8, (True, .slc 60)), (9, vI 0), (10, vI 0)] | k + 1 => [(1, (True, .pv (slR ts))), (2, (True, .pv (cI days))), (8, (True, .slc 60)), (9, vI (listFs (l.take (k + 1))).length), (10, vI ((k + 1 : Nat) : Int)), (65, (True, .pin 65 b c (slcV b c)))])) (fun (k, b, c) => (match k with | 0 => [(3, ⟨24, 5, [[.int .i64 op, .int .i64 n, .int .i64 u, .str s, .sl (l.map encX)]]⟩), (60, ⟨29, 1, []⟩), (7, ⟨24, 5, [[.int .i64 op, .int .i64 n, .int .i64 0, .str [], .slnil]]⟩)] | k + 1 => [(3, ⟨24, 5, [[.int .i64 op, .int .i64 n, .int .i64 u, .str s, .sl (l.map encX)]]⟩), (60, ⟨29, 1, (nodesF days (l.take (k + 1)) ts).map encR⟩), (7, ⟨24, 5, [[.int .i64 op, .int .i64 n, .int .i64 0, .str [], .sla b (List.replicate (k + 1) leafN).length c]]⟩), (65, ⟨24, 5, List.replicate (k + 1) leafN⟩)])) (fun (k, b, c) => l.length - k) ((0, 0, 0))
      case hp => repeat (first | exact Pick.nil | apply Pick.cons rfl)
      case h0 =>
        refine ⟨by simp, ?_⟩
        exact Le.auto
      case round =>
        rintro ⟨_ | k, b, c⟩ hk1
        · dsimp only
          apply W.norm (by repeat (first | exact App.nil | apply App.cons))
          have hk : 0 < l.length := by omega
          have q1 := listF_le hk
          have ih := play_ok d (nth l 0) (ts.take (listF (nth l 0)).length) days (g3 _ (nth_mem hk)) (h _ (nth_mem hk)) h0 h1 (fun r hr => hts r (List.mem_of_mem_take hr)) (fun r hr => hvs r (List.mem_of_mem_take hr)) (by simp; omega) (by simp; omega)
          have e0 : ts.take (listF (nth l 0)).length = (ts.drop (Int.toNat 0)).take ((0 + ((listF (nth l 0)).length : Int)).toNat - Int.toNat 0) := by
            simp only [Int.toNat_zero, List.drop_zero]
            congr 1; omega
          rw [nodeF_take _ _ _ _ (Nat.le_refl _), e0] at ih
          have hli := list_ok (nth l 0) (h _ (nth_mem hk)) (by omega)
          repeat' (first
            | apply RG.nil
            | apply Lex.nil
            | apply Then.n
            | apply Then.r
            | apply Then.x
            | apply InBlock.n
            | apply InBlock.r
            | apply InBlock.hit
            | (apply InBlock.miss; exact rfl)
            | apply W.seq
            | apply W.region
            | apply W.block
            | apply W.skip
            | apply W.ret
            | apply W.exit
            | (apply W.draw2 (id := 10) [0, 1, 0, 7, 15, 0, 0, 0, 0, 384, 992, 0, 4095, 8191] [[3], [44], [10], [45, 46], [47], [1], [9], [9], [11], [51, 52], [49, 50, 53], [2], [48, 54, 55], [56]] 14 [(44, 8), (45, 17592186044416), (46, 1024), (47, 105553116266496), (48, 140737488355328), (49, 2), (50, 512), (51, 512), (52, 2048), (53, 6755399441055744), (54, 10696049115004928), (55, 4), (56, 54324670505156608), (12, 72057594037927936)] mixed (by kernel_rfl) rfl rfl)
            | ((first | apply U_ | apply Lex.u | (apply Lex.g; exact rfl; exact rfl) | (apply Lex.gq; exact rfl; exact rfl)); (first
    | exact QX.Move TYok
    | exact QX.Asg TYok
    | exact QX.Fld TYok
    | exact QX.Ld TYok
    | exact QX.Bin TYok
    | exact QX.Un TYok
    | exact QX.Len TYok
    | exact QX.Idx TYok
    | exact QX.Build TYok
    | exact QX.Cut TYok
    | (apply Q_calld (ih); exact EvD.auto)
    | (apply Q_calld (hli); exact EvD.auto)); exact rfl)
            | refine SX.Alloc TYok (h := ?_)
            | refine SX.Store TYok (h := ?_)
            | refine SX.Lit TYok (h := ?_)
            | refine SX.App TYok (h := ?_)
            | refine SX.Box TYok (h := ?_)
            | (refine W.condA (ht := fun hb => ?_) (hf := fun hb => ?_) <;> (try simp at hb) <;> (try (exfalso; omega))))
          have hn1 : nodesF days (l.take (0 + 1)) ts = [nodeF days (nth l 0) ts] := by rw [nodesF_take days ts hk]; simp [nodesF, listFs]
          have hn2 : listFs (l.take (0 + 1)) = listF (nth l 0) := by rw [listFs_take hk]; simp [listFs]
          · apply RG.place (t := 65) rfl rfl
            · intro b' c'
              repeat' (first
                | apply RG.nil
                | apply Lex.nil
                | apply Then.n
                | apply Then.r
                | apply Then.x
                | apply InBlock.n
                | apply InBlock.r
                | apply InBlock.hit
                | (apply InBlock.miss; exact rfl)
                | apply W.seq
                | apply W.region
                | apply W.block
                | apply W.skip
                | apply W.ret
                | apply W.exit
                | (apply W.draw2 (id := 10) [0, 1, 0, 7, 15, 0, 0, 0, 0, 384, 992, 0, 4095, 8191] [[3], [44], [10], [45, 46], [47], [1], [9], [9], [11], [51, 52], [49, 50, 53], [2], [48, 54, 55], [56]] 14 [(44, 8), (45, 17592186044416), (46, 1024), (47, 105553116266496), (48, 140737488355328), (49, 2), (50, 512), (51, 512), (52, 2048), (53, 6755399441055744), (54, 10696049115004928), (55, 4), (56, 54324670505156608), (12, 72057594037927936)] mixed (by kernel_rfl) rfl rfl)
                | ((first | apply U_ | apply Lex.u | (apply Lex.g; exact rfl; exact rfl) | (apply Lex.gq; exact rfl; exact rfl)); (first
    | exact QX.Move TYok
    | exact QX.Asg TYok
    | exact QX.Fld TYok
    | exact QX.Ld TYok
    | exact QX.Bin TYok
    | exact QX.Un TYok
    | exact QX.Len TYok
    | exact QX.Idx TYok
    | exact QX.Build TYok
    | exact QX.Cut TYok); exact rfl)
                | refine SX.Alloc TYok (h := ?_)
                | refine SX.Store TYok (h := ?_)
                | refine SX.Lit TYok (h := ?_)
                | refine SX.App TYok (h := ?_)
                | refine SX.Box TYok (h := ?_)
                | (apply S_storeO TYok; exact Ev.auto; exact rfl; exact rfl; exact rfl; exact rfl; exact rfl; exact rfl; exact rfl; (first | (focus (simp; done)) | exact Nat.le_of_ble_eq_true rfl))
                | (refine W.condA (ht := fun hb => ?_) (hf := fun hb => ?_) <;> (try simp at hb) <;> (try (exfalso; omega))))
              refine ⟨(0 + 1, b', c'), by simp only; omega, ?_, ?_⟩
              · simp only [hn1, hn2]
                exact Le.auto
              · (try simp only); omega
            · intro hz
              exact absurd hz (by simp)
          · exact absurd hb (by intro e; rw [e] at hk; simp at hk)
        · dsimp only
          apply W.norm (by repeat (first | exact App.nil | apply App.cons))
          by_cases hk : k + 1 < l.length
          · have q1 := listFs_le (l := l) (k + 1 + 1)
            have q2 := listF_le hk
            rw [listFs_take hk, List.length_append] at q1
            have ih := play_ok d (nth l (k + 1)) ((ts.drop (listFs (l.take (k + 1))).length).take (listF (nth l (k + 1))).length) days (g3 _ (nth_mem hk)) (h _ (nth_mem hk)) h0 h1 (fun r hr => hts r (List.mem_of_mem_drop (List.mem_of_mem_take hr))) (fun r hr => hvs r (List.mem_of_mem_drop (List.mem_of_mem_take hr))) (by simp; omega) (by simp; omega)
            have e0 : (ts.drop (listFs (l.take (k + 1))).length).take (listF (nth l (k + 1))).length = (ts.drop (((listFs (l.take (k + 1))).length : Nat) : Int).toNat).take ((((listFs (l.take (k + 1))).length : Int) + ((listF (nth l (k + 1))).length : Int)).toNat - (((listFs (l.take (k + 1))).length : Nat) : Int).toNat) := by
              simp only [Int.toNat_natCast]
              congr 1; omega
            rw [nodeF_take _ _ _ _ (Nat.le_refl _), e0] at ih
            have hli := list_ok (nth l (k + 1)) (h _ (nth_mem hk)) (by omega)
            have q3 : (nodesF days (l.take (k + 1)) ts).length = k + 1 := by rw [nodesF_len, List.length_take]; omega
            repeat' (first
              | apply RG.nil
              | apply Lex.nil
              | apply Then.n
              | apply Then.r
              | apply Then.x
              | apply InBlock.n
              | apply InBlock.r
              | apply InBlock.hit
              | (apply InBlock.miss; exact rfl)
              | apply W.seq
              | apply W.region
              | apply W.block
              | apply W.skip
              | apply W.ret
              | apply W.exit
              | (apply W.draw2 (id := 10) [0, 1, 0, 7, 15, 0, 0, 0, 0, 384, 992, 0, 4095, 8191] [[3], [44], [10], [45, 46], [47], [1], [9], [9], [11], [51, 52], [49, 50, 53], [2], [48, 54, 55], [56]] 14 [(44, 8), (45, 17592186044416), (46, 1024), (47, 105553116266496), (48, 140737488355328), (49, 2), (50, 512), (51, 512), (52, 2048), (53, 6755399441055744), (54, 10696049115004928), (55, 4), (56, 54324670505156608), (12, 72057594037927936)] mixed (by kernel_rfl) rfl rfl)
              | ((first | apply U_ | apply Lex.u | (apply Lex.g; exact rfl; exact rfl) | (apply Lex.gq; exact rfl; exact rfl)); (first
    | (apply Q_loadO TYok (tt := 65); exact rfl; exact rfl; exact rfl; exact rfl; exact rfl; exact rfl; exact Ev.auto; exact rfl; exact rfl; exact rfl; (first | exact rfl | (focus (simp; done))))
    | exact QX.Move TYok
    | exact QX.Asg TYok
    | exact QX.Fld TYok
    | exact QX.Ld TYok
    | exact QX.Bin TYok
    | exact QX.Un TYok
    | exact QX.Len TYok
    | exact QX.Idx TYok
    | exact QX.Build TYok
    | exact QX.Cut TYok
    | (apply Q_calld (ih); exact EvD.auto)
    | (apply Q_calld (hli); exact EvD.auto)); exact rfl)
              | refine SX.Alloc TYok (h := ?_)
              | refine SX.Store TYok (h := ?_)
              | refine SX.Lit TYok (h := ?_)
              | refine SX.App TYok (h := ?_)
              | refine SX.Box TYok (h := ?_)
              | (refine W.condA (ht := fun hb => ?_) (hf := fun hb => ?_) <;> (try simp at hb) <;> (try (exfalso; omega))))
            apply RG.place (t := 65) rfl rfl
            · intro b' c'
              repeat' (first
                | apply RG.nil
                | apply Lex.nil
                | apply Then.n
                | apply Then.r
                | apply Then.x
                | apply InBlock.n
                | apply InBlock.r
                | apply InBlock.hit
                | (apply InBlock.miss; exact rfl)
                | apply W.seq
                | apply W.region
                | apply W.block
                | apply W.skip
                | apply W.ret
                | apply W.exit
                | (apply W.draw2 (id := 10) [0, 1, 0, 7, 15, 0, 0, 0, 0, 384, 992, 0, 4095, 8191] [[3], [44], [10], [45, 46], [47], [1], [9], [9], [11], [51, 52], [49, 50, 53], [2], [48, 54, 55], [56]] 14 [(44, 8), (45, 17592186044416), (46, 1024), (47, 105553116266496), (48, 140737488355328), (49, 2), (50, 512), (51, 512), (52, 2048), (53, 6755399441055744), (54, 10696049115004928), (55, 4), (56, 54324670505156608), (12, 72057594037927936)] mixed (by kernel_rfl) rfl rfl)
                | ((first | apply U_ | apply Lex.u | (apply Lex.g; exact rfl; exact rfl) | (apply Lex.gq; exact rfl; exact rfl)); (first
    | exact QX.Move TYok
    | exact QX.Asg TYok
    | exact QX.Fld TYok
    | exact QX.Ld TYok
    | exact QX.Bin TYok
    | exact QX.Un TYok
    | exact QX.Len TYok
    | exact QX.Idx TYok
    | exact QX.Build TYok
    | exact QX.Cut TYok); exact rfl)
                | refine SX.Alloc TYok (h := ?_)
                | refine SX.Store TYok (h := ?_)
                | refine SX.Lit TYok (h := ?_)
                | refine SX.App TYok (h := ?_)
                | refine SX.Box TYok (h := ?_)
                | (apply S_storeO TYok; exact Ev.auto; exact rfl; exact rfl; exact rfl; exact rfl; exact rfl; exact rfl; exact rfl; (first | (focus (simp; done)) | exact Nat.le_of_ble_eq_true rfl))
                | (refine W.condA (ht := fun hb => ?_) (hf := fun hb => ?_) <;> (try simp at hb) <;> (try (exfalso; omega))))
              refine ⟨(k + 1 + 1, b', c'), by simp only; omega, ?_, ?_⟩
              · dsimp only
                rw [nodesF_take days ts hk, List.map_append, listFs_take hk, List.length_append, show List.replicate (k + 1 + 1) leafN = List.replicate (k + 1) leafN ++ [leafN] from List.replicate_succ' .., show (List.replicate (k + 1) leafN ++ [leafN]).length = (List.replicate (k + 1) leafN).length + [leafN].length from List.length_append]
                exact Le.auto
              · (try simp only); omega
            · intro hz
              exact absurd hz (by simp)
          · have hl1 : k + 1 = l.length := by simp only at hk1; omega
            have hn : l.take (k + 1) = l := by rw [hl1, List.take_length]
            simp only [hn]
            have hA : (nodesF days l ts).length = l.length := nodesF_len days l ts
            have hR : Rows days (nodesF days l ts) := nodesF_rows h0 hts hll
            have hV : ∀ r ∈ nodesF days l ts, V3 r := nodesF_v3 (d := d) l ts g3 h0 hts hvs hll
            generalize nodesF days l ts = args at hA hR hV ⊢
            rw [hl1, ← hA]
            repeat' (first
              | apply RG.nil
              | apply Lex.nil
              | apply Then.n
              | apply Then.r
              | apply Then.x
              | apply InBlock.n
              | apply InBlock.r
              | apply InBlock.hit
              | (apply InBlock.miss; exact rfl)
              | apply W.seq
              | apply W.region
              | apply W.block
              | apply W.skip
              | apply W.ret
              | apply W.exit
              | (apply W.draw2 (id := 10) [0, 1, 0, 7, 15, 0, 0, 0, 0, 384, 992, 0, 4095, 8191] [[3], [44], [10], [45, 46], [47], [1], [9], [9], [11], [51, 52], [49, 50, 53], [2], [48, 54, 55], [56]] 14 [(44, 8), (45, 17592186044416), (46, 1024), (47, 105553116266496), (48, 140737488355328), (49, 2), (50, 512), (51, 512), (52, 2048), (53, 6755399441055744), (54, 10696049115004928), (55, 4), (56, 54324670505156608), (12, 72057594037927936)] mixed (by kernel_rfl) rfl rfl)
              | ((first | apply U_ | apply Lex.u | (apply Lex.g; exact rfl; exact rfl) | (apply Lex.gq; exact rfl; exact rfl)); (first
    | exact QX.Move TYok
    | exact QX.Asg TYok
    | exact QX.Fld TYok
    | exact QX.Ld TYok
    | exact QX.Bin TYok
    | exact QX.Un TYok
    | exact QX.Len TYok
    | exact QX.Idx TYok
    | exact QX.Build TYok
    | exact QX.Cut TYok); exact rfl)
              | refine SX.Alloc TYok (h := ?_)
              | refine SX.Store TYok (h := ?_)
              | refine SX.Lit TYok (h := ?_)
              | refine SX.App TYok (h := ?_)
              | refine SX.Box TYok (h := ?_)
              | (refine W.condA (ht := fun hb => ?_) (hf := fun hb => ?_) <;> (try simp at hb) <;> (try (exfalso; omega))))
            refine W.weaken (Le.rowSub (n := 65) (E := 24) (sz := 5) (rows' := (List.replicate args.length leaf).map encX) rfl rfl ?_) ?_
            · rw [List.map_replicate]
              exact RowsSub.replicate ⟨.refl _, .refl _, .refl _, .refl _, .nil, trivial⟩
            refine W.weaken (Le.freezeK (row' := [.int .i64 op, .int .i64 n, .int .i64 0, .str [], .sl ((List.replicate args.length leaf).map encX)]) (m := 7) (t := 65) (n := 65) rfl rfl rfl rfl rfl (by decide) (by refine ⟨.refl _, .refl _, .refl _, .refl _, ?_, trivial⟩; rw [show (List.replicate args.length leafN).length = ((List.replicate args.length leaf).map encX).length by simp]; exact .sla)) ?_
            refine W.weaken (Le.nilOwn (t := 13) (n := 83) (E := 3) (sz := 1) rfl) ?_
            apply W.loopP (σ := Nat) 85 [7] (fun k => k ≤ days.toNat) (fun k => [(13, (True, .slc 83)), (14, vI k), (2, (True, .pv (cI days))), (8, (True, .pv (slR args)))]) (fun k => [(7, ⟨24, 5, [[.int .i64 op, .int .i64 n, .int .i64 0, .str [], .sl ((List.replicate args.length leaf).map encX)]]⟩), (83, ⟨3, 1, ((List.range k).map (valF days op n args)).map encI⟩)]) (fun k => days.toNat - k) (0)
            case hp => repeat (first | exact Pick.nil | apply Pick.cons rfl)
            case h0 =>
              refine ⟨by simp, ?_⟩
              simp only [List.range_zero, List.map_nil]
              exact Le.auto
            case round =>
              rintro k hk1
              apply W.norm (by repeat (first | exact App.nil | apply App.cons))
              by_cases hk : k < days.toNat
              · have hfl := flat_ok (op := op) (n := n) args days k hR hV (by omega) h1 g6 (by omega) (by omega) (fun h => ⟨(g4 h).1, (g4 h).2.1⟩)
                repeat' (first
                  | apply RG.nil
                  | apply Lex.nil
                  | apply Then.n
                  | apply Then.r
                  | apply Then.x
                  | apply InBlock.n
                  | apply InBlock.r
                  | apply InBlock.hit
                  | (apply InBlock.miss; exact rfl)
                  | apply W.seq
                  | apply W.region
                  | apply W.block
                  | apply W.skip
                  | apply W.ret
                  | apply W.exit
                  | (apply W.draw2 (id := 10) [0, 1, 0, 7, 15, 0, 0, 0, 0, 384, 992, 0, 4095, 8191] [[3], [44], [10], [45, 46], [47], [1], [9], [9], [11], [51, 52], [49, 50, 53], [2], [48, 54, 55], [56]] 14 [(44, 8), (45, 17592186044416), (46, 1024), (47, 105553116266496), (48, 140737488355328), (49, 2), (50, 512), (51, 512), (52, 2048), (53, 6755399441055744), (54, 10696049115004928), (55, 4), (56, 54324670505156608), (12, 72057594037927936)] mixed (by kernel_rfl) rfl rfl)
                  | ((first | apply U_ | apply Lex.u | (apply Lex.g; exact rfl; exact rfl) | (apply Lex.gq; exact rfl; exact rfl)); (first
    | exact QX.Move TYok
    | exact QX.Asg TYok
    | exact QX.Fld TYok
    | exact QX.Ld TYok
    | exact QX.Bin TYok
    | exact QX.Un TYok
    | exact QX.Len TYok
    | exact QX.Idx TYok
    | exact QX.Build TYok
    | exact QX.Cut TYok
    | (apply Q_calld (hfl); exact EvD.auto)); exact rfl)
                  | refine SX.Alloc TYok (h := ?_)
                  | refine SX.Store TYok (h := ?_)
                  | refine SX.Lit TYok (h := ?_)
                  | refine SX.App TYok (h := ?_)
                  | refine SX.Box TYok (h := ?_)
                  | (refine W.condA (ht := fun hb => ?_) (hf := fun hb => ?_) <;> (try simp at hb) <;> (try (exfalso; omega))))
                refine ⟨k + 1, by omega, ?_, ?_⟩
                · simp only [List.range_succ, List.map_append, List.map_cons, List.map_nil]
                  exact Le.auto
                · (try simp only); omega
              · obtain rfl : k = days.toNat := by omega
                repeat' (first
                  | apply RG.nil
                  | apply Lex.nil
                  | apply Then.n
                  | apply Then.r
                  | apply Then.x
                  | apply InBlock.n
                  | apply InBlock.r
                  | apply InBlock.hit
                  | (apply InBlock.miss; exact rfl)
                  | apply W.seq
                  | apply W.region
                  | apply W.block
                  | apply W.skip
                  | apply W.ret
                  | apply W.exit
                  | (apply W.draw2 (id := 10) [0, 1, 0, 7, 15, 0, 0, 0, 0, 384, 992, 0, 4095, 8191] [[3], [44], [10], [45, 46], [47], [1], [9], [9], [11], [51, 52], [49, 50, 53], [2], [48, 54, 55], [56]] 14 [(44, 8), (45, 17592186044416), (46, 1024), (47, 105553116266496), (48, 140737488355328), (49, 2), (50, 512), (51, 512), (52, 2048), (53, 6755399441055744), (54, 10696049115004928), (55, 4), (56, 54324670505156608), (12, 72057594037927936)] mixed (by kernel_rfl) rfl rfl)
                  | ((first | apply U_ | apply Lex.u | (apply Lex.g; exact rfl; exact rfl) | (apply Lex.gq; exact rfl; exact rfl)); (first
    | exact QX.Move TYok
    | exact QX.Asg TYok
    | exact QX.Fld TYok
    | exact QX.Ld TYok
    | exact QX.Bin TYok
    | exact QX.Un TYok
    | exact QX.Len TYok
    | exact QX.Idx TYok
    | exact QX.Build TYok
    | exact QX.Cut TYok); exact rfl)
                  | refine SX.Alloc TYok (h := ?_)
                  | refine SX.Store TYok (h := ?_)
                  | refine SX.Lit TYok (h := ?_)
                  | refine SX.App TYok (h := ?_)
                  | refine SX.Box TYok (h := ?_)
                  | (refine W.condA (ht := fun hb => ?_) (hf := fun hb => ?_) <;> (try simp at hb) <;> (try (exfalso; omega))))
                exact Fin.ret ResL.auto
end Go.Proofs.Ytacilhkipekjlaa
