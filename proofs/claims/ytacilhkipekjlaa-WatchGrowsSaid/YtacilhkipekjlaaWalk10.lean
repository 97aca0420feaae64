/-
  A node's days
-/
import Derived.Test.YtacilhkipekjlaaWalk9
set_option linter.unusedVariables false
set_option linter.unusedSimpArgs false
set_option maxHeartbeats 8000000
namespace Go.Proofs.Ytacilhkipekjlaa
open Lf Go
attribute [local irreducible] PureOp EffOp Ev RG W Then InBlock Lf.Fin nth App InitE Pick SubE SubF SubG EvL EvD EvP EvR ResL Lf.Lex SubR SubBR RA RAll EvC FinO FinM ResM FinB ResD

/-! ### a node's days -/
def valF (days op n : Int) (args : List (List Int)) (d : Nat) : Int :=
  if op = 12 then notF (nth (args.map fun r => nth r d) 0)
  else if op = 13 then allF (args.map fun r => nth r d)
  else if op = 14 then someF (args.map fun r => nth r d)
  else if op = 16 then someF (winF (nth args 0) days ((d : Int) - n + 1) d)
  else if op = 17 then allF (winF (nth args 0) days ((d : Int) - n + 1) d)
  else someF (winF (nth args 0) days d ((d : Int) + n - 1))
mutual
def nodeF (days : Int) : Exp → List (List Int) → List Int
  | .mk op n u s l, ts => if framedF op then (List.range days.toNat).map (valF days op n (nodesF days l ts)) else nth ts 0
def nodesF (days : Int) : List Exp → List (List Int) → List (List Int)
  | [], _ => []
  | e :: r, ts => nodeF days e ts :: nodesF days r (ts.drop (listF e).length)
end
theorem nodesF_append (days : Int) : ∀ (l m : List Exp) (ts : List (List Int)), nodesF days (l ++ m) ts = nodesF days l ts ++ nodesF days m (ts.drop (listFs l).length)
  | [], m, ts => by simp [nodesF, listFs]
  | e :: r, m, ts => by
    rw [List.cons_append, nodesF, nodesF_append days r m, nodesF, listFs, List.length_append, List.drop_drop]; rfl
theorem nodesF_take (days : Int) {l : List Exp} (ts : List (List Int)) {k : Nat} (h : k < l.length) : nodesF days (l.take (k + 1)) ts = nodesF days (l.take k) ts ++ [nodeF days (nth l k) (ts.drop (listFs (l.take k)).length)] := by
  rw [take_nth h, nodesF_append]; simp [nodesF]
theorem nodesF_len (days : Int) : ∀ (l : List Exp) (ts : List (List Int)), (nodesF days l ts).length = l.length
  | [], ts => rfl
  | e :: r, ts => by rw [nodesF, List.length_cons, nodesF_len days r]; rfl
def Rows (days : Int) (ts : List (List Int)) : Prop := ∀ r ∈ ts, (r.length : Int) = days
theorem Rows.drop {days : Int} {ts : List (List Int)} (h : Rows days ts) (k : Nat) : Rows days (ts.drop k) := fun r hr => h r (List.mem_of_mem_drop hr)
theorem nodeF_len {days : Int} {e : Exp} {ts : List (List Int)} (h0 : 0 ≤ days) (h : Rows days ts) (hl : (listF e).length ≤ ts.length) : ((nodeF days e ts).length : Int) = days := by
  obtain ⟨op, n, u, s, l⟩ := e
  rw [nodeF]
  cases hf : framedF op with
  | true => simp; omega
  | false =>
    rw [listF, hf] at hl
    simp only [Bool.false_eq_true, if_false] at hl ⊢
    exact h _ (nth_mem (by simp at hl; omega))
theorem nodesF_rows {days : Int} (h0 : 0 ≤ days) : ∀ {l : List Exp} {ts : List (List Int)}, Rows days ts → (listFs l).length ≤ ts.length → Rows days (nodesF days l ts)
  | [], ts, _, _ => by intro r hr; simp [nodesF] at hr
  | e :: r, ts, h, hl => by
    rw [listFs, List.length_append] at hl
    intro x hx
    rw [nodesF] at hx
    rcases List.mem_cons.1 hx with rfl | hx
    · exact nodeF_len h0 h (by omega)
    · exact nodesF_rows h0 (h.drop _) (by simp; omega) x hx
theorem right_framed {d : Nat} {op n u : Int} {s : Str} {l : List Exp} (h : rightF (d + 1) (.mk op n u s l) = true) (hf : framedF op = true) : 1 ≤ l.length ∧ l.length ≤ 2 ∧ (∀ x ∈ l, rightF d x = true) ∧ (op = 16 ∨ op = 17 ∨ op = 18 → 1 ≤ n ∧ n ≤ 1000 ∧ l.length = 1) ∧ (op = 12 → l.length = 1) ∧ (op = 12 ∨ op = 13 ∨ op = 14 ∨ op = 16 ∨ op = 17 ∨ op = 18) := by
  have hop : op = 12 ∨ op = 13 ∨ op = 14 ∨ op = 16 ∨ op = 17 ∨ op = 18 := by
    simp [framedF, pastF] at hf; omega
  rw [rightF, Bool.and_eq_true, decide_eq_true_iff, if_neg (by omega), if_neg (by omega)] at h
  have hlen := h.1
  have hh := h.2
  by_cases h2 : op = 16 ∨ op = 17 ∨ op = 18
  · rw [if_pos h2] at hh
    have e : opsF op = 1 := by unfold opsF; rw [if_neg (by omega), if_pos (by omega)]
    rw [e] at hlen
    simp only [Bool.and_eq_true, decide_eq_true_iff, inF, List.all_eq_true] at hh
    exact ⟨by omega, by omega, hh.2, fun _ => ⟨by omega, by omega, by omega⟩, fun _ => by omega, hop⟩
  · rw [if_neg h2] at hh
    simp only [Bool.and_eq_true, decide_eq_true_iff, List.all_eq_true] at hh
    by_cases h3 : op = 12
    · have e : opsF op = 1 := by unfold opsF; rw [if_neg (by omega), if_pos (by omega)]
      rw [e] at hlen
      exact ⟨by omega, by omega, hh.2, fun h => absurd h h2, fun _ => by omega, hop⟩
    · have e : opsF op = 2 := by unfold opsF; rw [if_neg (by omega), if_neg (by omega), if_neg (by omega), if_neg (by omega)]
      rw [e] at hlen
      exact ⟨by omega, by omega, hh.2, fun h => absurd h h2, fun h => absurd h h3, hop⟩
theorem node_ok : ∀ (d : Nat) (e : Exp) (ts : List (List Int)) (days : Int), rightF d e = true → OkE e → 0 ≤ days → days ≤ 1000 → Rows days ts → ts.length ≤ 1000000 → (listF e).length ≤ ts.length → BCalls Try.prog 27 48 2 (rowR ts days) [aE e] (.pv (slI (nodeF days e ts))) (rowR (ts.drop (listF e).length) days)
  | 0, .mk op n u s l, ts, days, hr, _, _, _, _, _, _ => by simp [rightF] at hr
  | d + 1, .mk op n u s l, ts, days, hr, he, h0, h1, hts, htl, hll => by
    cases he with
    | mk hs hl h =>
    rw [aE_mk]
    cases hf : framedF op with
    | false =>
      rw [listF, hf] at hll ⊢
      rw [nodeF, hf]
      simp only [Bool.false_eq_true, if_false, List.length_cons, List.length_nil, Nat.zero_add] at hll ⊢
      have hpos : 0 < ts.length := by omega
      have hrow := hts _ (nth_mem hpos)
      refine BCalls.of_W (qs := [slI (nth ts 0)]) [4] 152 Try.func27 (by kernel_rfl) rfl rfl rfl rfl fun G b cap => ?_
      simp only [St.initB, initEnv, Nat.reduceAdd]
      repeat' (first
        | apply RG.nil
        | apply Lex.nil
        | apply Then.n
        | apply Then.r
        | apply Then.x
        | apply InBlock.n
        | apply InBlock.r
        | apply InBlock.hit
        | (apply InBlock.miss; exact rfl)
        | apply W.seq
        | apply W.region
        | apply W.block
        | apply W.skip
        | apply W.ret
        | apply W.exit
        | (apply W.draw2 (id := 29) [0, 0, 0, 0, 8, 24, 0, 0, 128, 448, 960, 0, 4092, 8188, 16383, 32767] [[9], [10], [0], [6], [104], [105], [10], [3], [108], [107, 109], [110], [10], [103, 106, 111, 112], [113], [101, 102]] 15 [(101, 512), (102, 1024), (103, 1), (104, 64), (105, 20282409603651670423947251286016), (106, 40564819207303340847894502572032), (107, 1024), (108, 8), (109, 324518553658426726783156020576256), (110, 811296384146066816957890051440640), (111, 1298074214633706907132624082305024), (112, 1024), (113, 7879716131018673959703507124617216), (114, 10384593717069655257060992658440192), (115, 7605903601369376408980219232256)] mixed (by kernel_rfl) rfl rfl)
        | (apply W.draw2 (id := 31) [0, 0, 0, 0, 8, 24, 0, 0, 128, 448, 960, 0, 4092, 8188, 16383, 32767] [[9], [10], [0], [6], [121], [122], [10], [3], [125], [124, 126], [127], [10], [120, 123, 128, 129], [130], [118, 119]] 15 [(118, 512), (119, 1024), (120, 1), (121, 64), (122, 2658455991569831745807614120560689152), (123, 5316911983139663491615228241121378304), (124, 1024), (125, 8), (126, 42535295865117307932921825928971026432), (127, 106338239662793269832304564822427566080), (128, 170141183460469231731687303715884105728), (129, 1024), (130, 1032810152724879633246258085837827735552), (131, 1361129467683753853853498429727072845824), (132, 996920996838686904677855295210258432)] mixed (by kernel_rfl) rfl rfl)
        | (apply W.draw2 (id := 33) [0, 0, 0, 0, 8, 24, 0, 0, 0, 256, 896, 1920, 4092, 8188, 16383, 32767] [[9], [10], [0], [6], [138], [139], [10], [10], [3], [143], [142, 144], [145], [137, 140, 141, 146], [147], [135, 136]] 15 [(135, 512), (136, 1024), (137, 1), (138, 64), (139, 348449143727040986586495598010130648530944), (140, 696898287454081973172991196020261297061888), (141, 1024), (142, 1024), (143, 8), (144, 11150372599265311570767859136324180752990208), (145, 27875931498163278926919647840810451882475520), (146, 44601490397061246283071436545296723011960832), (147, 93558595090710504898474068065720079130558464), (148, 178405961588244985132285746181186892047843328), (149, 130668428897640369969935849253798993199104)] mixed (by kernel_rfl) rfl rfl)
        | ((first | apply U_ | apply Lex.u | (apply Lex.g; exact rfl; exact rfl) | (apply Lex.gq; exact rfl; exact rfl)); (first
    | exact QX.Nil TYok
    | exact QX.Move TYok
    | exact QX.Asg TYok
    | exact QX.Fld TYok
    | exact QX.Ld TYok
    | exact QX.Bin TYok
    | exact QX.Un TYok
    | exact QX.Len TYok
    | exact QX.Idx TYok
    | exact QX.Cut TYok
    | (apply Q_call (framed_ok op); exact EvL.auto; exact rfl)); exact rfl)
        | refine SX.Alloc TYok (h := ?_)
        | refine SX.Store TYok (h := ?_)
        | refine SX.Lit TYok (h := ?_)
        | refine SX.Make TYok (h := ?_)
        | refine SX.App TYok (h := ?_)
        | refine SX.Box TYok (h := ?_)
        | (apply S_callo (cloneI_ok (nth ts 0) (by omega)); exact rfl; exact rfl; exact rfl; exact EvD.auto)
        | (apply S_isnil TYok; exact rfl; exact rfl; exact rfl; exact Ev.auto; intro bn hnil)
        | (refine W.condA (ht := fun hb => ?_) (hf := fun hb => ?_) <;> (try simp at hb) <;> (try (exfalso; omega))))
      · exact FinB.ret 0 rfl rfl (by show Blk.mk 48 2 [[.sl (List.drop 1 (ts.map encR)), .int .i64 days]] = Blk.mk 48 2 [[.sl ((List.drop 1 ts).map encR), .int .i64 days]]; rw [List.map_drop]) ResD.auto
      · rw [hf] at hb; cases hb
    | true =>
      have hrf := right_framed hr hf
      obtain ⟨g1, g2, g3, g4, g5, g6⟩ := hrf
      rw [listF, hf] at hll ⊢
      rw [nodeF, hf]
      simp only [if_true] at hll ⊢
      refine BCalls.of_W (qs := [slI ((List.range days.toNat).map (valF days op n (nodesF days l ts)))]) [4] 152 Try.func27 (by kernel_rfl) rfl rfl rfl rfl fun G b cap => ?_
      simp only [St.initB, initEnv, Nat.reduceAdd]
      repeat' (first
        | apply RG.nil
        | apply Lex.nil
        | apply Then.n
        | apply Then.r
        | apply Then.x
        | apply InBlock.n
        | apply InBlock.r
        | apply InBlock.hit
        | (apply InBlock.miss; exact rfl)
        | apply W.seq
        | apply W.region
        | apply W.block
        | apply W.skip
        | apply W.ret
        | apply W.exit
        | (apply W.draw2 (id := 29) [0, 0, 0, 0, 8, 24, 0, 0, 128, 448, 960, 0, 4092, 8188, 16383, 32767] [[9], [10], [0], [6], [104], [105], [10], [3], [108], [107, 109], [110], [10], [103, 106, 111, 112], [113], [101, 102]] 15 [(101, 512), (102, 1024), (103, 1), (104, 64), (105, 20282409603651670423947251286016), (106, 40564819207303340847894502572032), (107, 1024), (108, 8), (109, 324518553658426726783156020576256), (110, 811296384146066816957890051440640), (111, 1298074214633706907132624082305024), (112, 1024), (113, 7879716131018673959703507124617216), (114, 10384593717069655257060992658440192), (115, 7605903601369376408980219232256)] mixed (by kernel_rfl) rfl rfl)
        | (apply W.draw2 (id := 31) [0, 0, 0, 0, 8, 24, 0, 0, 128, 448, 960, 0, 4092, 8188, 16383, 32767] [[9], [10], [0], [6], [121], [122], [10], [3], [125], [124, 126], [127], [10], [120, 123, 128, 129], [130], [118, 119]] 15 [(118, 512), (119, 1024), (120, 1), (121, 64), (122, 2658455991569831745807614120560689152), (123, 5316911983139663491615228241121378304), (124, 1024), (125, 8), (126, 42535295865117307932921825928971026432), (127, 106338239662793269832304564822427566080), (128, 170141183460469231731687303715884105728), (129, 1024), (130, 1032810152724879633246258085837827735552), (131, 1361129467683753853853498429727072845824), (132, 996920996838686904677855295210258432)] mixed (by kernel_rfl) rfl rfl)
        | (apply W.draw2 (id := 33) [0, 0, 0, 0, 8, 24, 0, 0, 0, 256, 896, 1920, 4092, 8188, 16383, 32767] [[9], [10], [0], [6], [138], [139], [10], [10], [3], [143], [142, 144], [145], [137, 140, 141, 146], [147], [135, 136]] 15 [(135, 512), (136, 1024), (137, 1), (138, 64), (139, 348449143727040986586495598010130648530944), (140, 696898287454081973172991196020261297061888), (141, 1024), (142, 1024), (143, 8), (144, 11150372599265311570767859136324180752990208), (145, 27875931498163278926919647840810451882475520), (146, 44601490397061246283071436545296723011960832), (147, 93558595090710504898474068065720079130558464), (148, 178405961588244985132285746181186892047843328), (149, 130668428897640369969935849253798993199104)] mixed (by kernel_rfl) rfl rfl)
        | ((first | apply U_ | apply Lex.u | (apply Lex.g; exact rfl; exact rfl) | (apply Lex.gq; exact rfl; exact rfl)); (first
    | exact QX.Nil TYok
    | exact QX.Move TYok
    | exact QX.Asg TYok
    | exact QX.Fld TYok
    | exact QX.Ld TYok
    | exact QX.Bin TYok
    | exact QX.Un TYok
    | exact QX.Len TYok
    | exact QX.Idx TYok
    | exact QX.Cut TYok
    | (apply Q_call (framed_ok op); exact EvL.auto; exact rfl)); exact rfl)
        | refine SX.Alloc TYok (h := ?_)
        | refine SX.Store TYok (h := ?_)
        | refine SX.Lit TYok (h := ?_)
        | refine SX.Make TYok (h := ?_)
        | refine SX.App TYok (h := ?_)
        | refine SX.Box TYok (h := ?_)
        | (apply S_isnil TYok; exact rfl; exact rfl; exact rfl; exact Ev.auto; intro bn hnil)
        | (refine W.condA (ht := fun hb => ?_) (hf := fun hb => ?_) <;> (try simp at hb) <;> (try (exfalso; omega))))
      · rw [hf] at hb; cases hb
      refine W.weaken (Le.nilOwn (t := 6) (n := 46) (E := 29) (sz := 1) rfl) ?_
      apply W.loopP (σ := Nat) 152 [0, 3, 35, 36] (fun k => k ≤ l.length) (fun k => [(6, (True, .slc 46)), (37, vI k)]) (fun k => [(0, ⟨48, 2, [rowR (ts.drop (listFs (l.take k)).length) days]⟩), (3, ⟨24, 5, [[.int .i64 op, .int .i64 n, .int .i64 u, .str s, .sl (l.map encX)]]⟩), (46, ⟨29, 1, (nodesF days (l.take k) ts).map encR⟩)]) (fun k => l.length - k) (0)
      case hp => repeat (first | exact Pick.nil | apply Pick.cons rfl)
      case h0 =>
        refine ⟨by simp, ?_⟩
        simp only [List.take_zero, listFs, nodesF, List.map_nil, List.length_nil, List.drop_zero]
        exact Le.auto
      case round =>
        rintro k hk1
        apply W.norm (by repeat (first | exact App.nil | apply App.cons))
        by_cases hk : k < l.length
        · have q1 := listFs_le (l := l) (k + 1)
          rw [listFs_take hk, List.length_append] at q1
          have ih := node_ok d (nth l k) (ts.drop (listFs (l.take k)).length) days (g3 _ (nth_mem hk)) (h _ (nth_mem hk)) h0 h1 (hts.drop _) (by simp; omega) (by simp; omega)
          have q2 : (nodesF days (l.take k) ts).length = k := by rw [nodesF_len, List.length_take]; omega
          repeat' (first
            | apply RG.nil
            | apply Lex.nil
            | apply Then.n
            | apply Then.r
            | apply Then.x
            | apply InBlock.n
            | apply InBlock.r
            | apply InBlock.hit
            | (apply InBlock.miss; exact rfl)
            | apply W.seq
            | apply W.region
            | apply W.block
            | apply W.skip
            | apply W.ret
            | apply W.exit
            | (apply W.draw2 (id := 29) [0, 0, 0, 0, 8, 24, 0, 0, 128, 448, 960, 0, 4092, 8188, 16383, 32767] [[9], [10], [0], [6], [104], [105], [10], [3], [108], [107, 109], [110], [10], [103, 106, 111, 112], [113], [101, 102]] 15 [(101, 512), (102, 1024), (103, 1), (104, 64), (105, 20282409603651670423947251286016), (106, 40564819207303340847894502572032), (107, 1024), (108, 8), (109, 324518553658426726783156020576256), (110, 811296384146066816957890051440640), (111, 1298074214633706907132624082305024), (112, 1024), (113, 7879716131018673959703507124617216), (114, 10384593717069655257060992658440192), (115, 7605903601369376408980219232256)] mixed (by kernel_rfl) rfl rfl)
            | (apply W.draw2 (id := 31) [0, 0, 0, 0, 8, 24, 0, 0, 128, 448, 960, 0, 4092, 8188, 16383, 32767] [[9], [10], [0], [6], [121], [122], [10], [3], [125], [124, 126], [127], [10], [120, 123, 128, 129], [130], [118, 119]] 15 [(118, 512), (119, 1024), (120, 1), (121, 64), (122, 2658455991569831745807614120560689152), (123, 5316911983139663491615228241121378304), (124, 1024), (125, 8), (126, 42535295865117307932921825928971026432), (127, 106338239662793269832304564822427566080), (128, 170141183460469231731687303715884105728), (129, 1024), (130, 1032810152724879633246258085837827735552), (131, 1361129467683753853853498429727072845824), (132, 996920996838686904677855295210258432)] mixed (by kernel_rfl) rfl rfl)
            | (apply W.draw2 (id := 33) [0, 0, 0, 0, 8, 24, 0, 0, 0, 256, 896, 1920, 4092, 8188, 16383, 32767] [[9], [10], [0], [6], [138], [139], [10], [10], [3], [143], [142, 144], [145], [137, 140, 141, 146], [147], [135, 136]] 15 [(135, 512), (136, 1024), (137, 1), (138, 64), (139, 348449143727040986586495598010130648530944), (140, 696898287454081973172991196020261297061888), (141, 1024), (142, 1024), (143, 8), (144, 11150372599265311570767859136324180752990208), (145, 27875931498163278926919647840810451882475520), (146, 44601490397061246283071436545296723011960832), (147, 93558595090710504898474068065720079130558464), (148, 178405961588244985132285746181186892047843328), (149, 130668428897640369969935849253798993199104)] mixed (by kernel_rfl) rfl rfl)
            | ((first | apply U_ | apply Lex.u | (apply Lex.g; exact rfl; exact rfl) | (apply Lex.gq; exact rfl; exact rfl)); (first
    | exact QX.Nil TYok
    | exact QX.Move TYok
    | exact QX.Asg TYok
    | exact QX.Fld TYok
    | exact QX.Ld TYok
    | exact QX.Bin TYok
    | exact QX.Un TYok
    | exact QX.Len TYok
    | exact QX.Idx TYok
    | exact QX.Cut TYok); exact rfl)
            | refine SX.Alloc TYok (h := ?_)
            | refine SX.Store TYok (h := ?_)
            | refine SX.Lit TYok (h := ?_)
            | refine SX.Make TYok (h := ?_)
            | refine SX.App TYok (h := ?_)
            | refine SX.Box TYok (h := ?_)
            | (apply S_callb (ih); exact Ev.auto; exact rfl; exact rfl; exact EvD.auto)
            | (apply S_isnil TYok; exact rfl; exact rfl; exact rfl; exact Ev.auto; intro bn hnil)
            | (refine W.condA (ht := fun hb => ?_) (hf := fun hb => ?_) <;> (try simp at hb) <;> (try (exfalso; omega))))
          refine ⟨k + 1, by omega, ?_, ?_⟩
          · simp only [listFs_take hk, nodesF_take days ts hk, List.length_append]
            exact Le.auto
          · (try simp only); omega
        · obtain rfl : k = l.length := by omega
          have hn : l.take l.length = l := List.take_length
          simp only [hn]
          repeat' (first
            | apply RG.nil
            | apply Lex.nil
            | apply Then.n
            | apply Then.r
            | apply Then.x
            | apply InBlock.n
            | apply InBlock.r
            | apply InBlock.hit
            | (apply InBlock.miss; exact rfl)
            | apply W.seq
            | apply W.region
            | apply W.block
            | apply W.skip
            | apply W.ret
            | apply W.exit
            | (apply W.draw2 (id := 29) [0, 0, 0, 0, 8, 24, 0, 0, 128, 448, 960, 0, 4092, 8188, 16383, 32767] [[9], [10], [0], [6], [104], [105], [10], [3], [108], [107, 109], [110], [10], [103, 106, 111, 112], [113], [101, 102]] 15 [(101, 512), (102, 1024), (103, 1), (104, 64), (105, 20282409603651670423947251286016), (106, 40564819207303340847894502572032), (107, 1024), (108, 8), (109, 324518553658426726783156020576256), (110, 811296384146066816957890051440640), (111, 1298074214633706907132624082305024), (112, 1024), (113, 7879716131018673959703507124617216), (114, 10384593717069655257060992658440192), (115, 7605903601369376408980219232256)] mixed (by kernel_rfl) rfl rfl)
            | (apply W.draw2 (id := 31) [0, 0, 0, 0, 8, 24, 0, 0, 128, 448, 960, 0, 4092, 8188, 16383, 32767] [[9], [10], [0], [6], [121], [122], [10], [3], [125], [124, 126], [127], [10], [120, 123, 128, 129], [130], [118, 119]] 15 [(118, 512), (119, 1024), (120, 1), (121, 64), (122, 2658455991569831745807614120560689152), (123, 5316911983139663491615228241121378304), (124, 1024), (125, 8), (126, 42535295865117307932921825928971026432), (127, 106338239662793269832304564822427566080), (128, 170141183460469231731687303715884105728), (129, 1024), (130, 1032810152724879633246258085837827735552), (131, 1361129467683753853853498429727072845824), (132, 996920996838686904677855295210258432)] mixed (by kernel_rfl) rfl rfl)
            | (apply W.draw2 (id := 33) [0, 0, 0, 0, 8, 24, 0, 0, 0, 256, 896, 1920, 4092, 8188, 16383, 32767] [[9], [10], [0], [6], [138], [139], [10], [10], [3], [143], [142, 144], [145], [137, 140, 141, 146], [147], [135, 136]] 15 [(135, 512), (136, 1024), (137, 1), (138, 64), (139, 348449143727040986586495598010130648530944), (140, 696898287454081973172991196020261297061888), (141, 1024), (142, 1024), (143, 8), (144, 11150372599265311570767859136324180752990208), (145, 27875931498163278926919647840810451882475520), (146, 44601490397061246283071436545296723011960832), (147, 93558595090710504898474068065720079130558464), (148, 178405961588244985132285746181186892047843328), (149, 130668428897640369969935849253798993199104)] mixed (by kernel_rfl) rfl rfl)
            | ((first | apply U_ | apply Lex.u | (apply Lex.g; exact rfl; exact rfl) | (apply Lex.gq; exact rfl; exact rfl)); (first
    | exact QX.Nil TYok
    | exact QX.Move TYok
    | exact QX.Asg TYok
    | exact QX.Fld TYok
    | exact QX.Ld TYok
    | exact QX.Bin TYok
    | exact QX.Un TYok
    | exact QX.Len TYok
    | exact QX.Idx TYok
    | exact QX.Cut TYok); exact rfl)
            | refine SX.Alloc TYok (h := ?_)
            | refine SX.Store TYok (h := ?_)
            | refine SX.Lit TYok (h := ?_)
            | refine SX.Make TYok (h := ?_)
            | refine SX.App TYok (h := ?_)
            | refine SX.Box TYok (h := ?_)
            | (apply S_isnil TYok; exact rfl; exact rfl; exact rfl; exact Ev.auto; intro bn hnil)
            | (refine W.condA (ht := fun hb => ?_) (hf := fun hb => ?_) <;> (try simp at hb) <;> (try (exfalso; omega))))
          have hA : (nodesF days l ts).length = l.length := nodesF_len days l ts
          have hR : Rows days (nodesF days l ts) := nodesF_rows h0 hts hll
          generalize nodesF days l ts = args at hA hR ⊢
          apply W.loopP (σ := Nat × List Int) 152 [0, 3, 6, 9] (fun (k, m) => k ≤ days.toNat ∧ m.length = days.toNat ∧ m.take k = (List.range k).map (valF days op n args)) (fun (k, m) => [(57, vI k), (56, (True, .pv (cI days)))]) (fun (k, m) => [(0, ⟨48, 2, [rowR (ts.drop (listFs l).length) days]⟩), (3, ⟨24, 5, [[.int .i64 op, .int .i64 n, .int .i64 u, .str s, .sl (l.map encX)]]⟩), (46, ⟨29, 1, args.map encR⟩), (52, ⟨3, 1, m.map encI⟩)]) (fun (k, m) => days.toNat - k) ((0, List.replicate days.toNat 0))
          case hp => repeat (first | exact Pick.nil | apply Pick.cons rfl)
          case h0 =>
            refine ⟨by simp, ?_⟩
            exact Le.auto
          case round =>
            rintro ⟨k, m⟩ ⟨r1, r2, r3⟩
            apply W.norm (by repeat (first | exact App.nil | apply App.cons))
            dsimp only
            by_cases hk : k < days.toNat
            · repeat' (first
                | apply RG.nil
                | apply Lex.nil
                | apply Then.n
                | apply Then.r
                | apply Then.x
                | apply InBlock.n
                | apply InBlock.r
                | apply InBlock.hit
                | (apply InBlock.miss; exact rfl)
                | apply W.seq
                | apply W.region
                | apply W.block
                | apply W.skip
                | apply W.ret
                | apply W.exit
                | (apply W.draw2 (id := 29) [0, 0, 0, 0, 8, 24, 0, 0, 128, 448, 960, 0, 4092, 8188, 16383, 32767] [[9], [10], [0], [6], [104], [105], [10], [3], [108], [107, 109], [110], [10], [103, 106, 111, 112], [113], [101, 102]] 15 [(101, 512), (102, 1024), (103, 1), (104, 64), (105, 20282409603651670423947251286016), (106, 40564819207303340847894502572032), (107, 1024), (108, 8), (109, 324518553658426726783156020576256), (110, 811296384146066816957890051440640), (111, 1298074214633706907132624082305024), (112, 1024), (113, 7879716131018673959703507124617216), (114, 10384593717069655257060992658440192), (115, 7605903601369376408980219232256)] mixed (by kernel_rfl) rfl rfl)
                | (apply W.draw2 (id := 31) [0, 0, 0, 0, 8, 24, 0, 0, 128, 448, 960, 0, 4092, 8188, 16383, 32767] [[9], [10], [0], [6], [121], [122], [10], [3], [125], [124, 126], [127], [10], [120, 123, 128, 129], [130], [118, 119]] 15 [(118, 512), (119, 1024), (120, 1), (121, 64), (122, 2658455991569831745807614120560689152), (123, 5316911983139663491615228241121378304), (124, 1024), (125, 8), (126, 42535295865117307932921825928971026432), (127, 106338239662793269832304564822427566080), (128, 170141183460469231731687303715884105728), (129, 1024), (130, 1032810152724879633246258085837827735552), (131, 1361129467683753853853498429727072845824), (132, 996920996838686904677855295210258432)] mixed (by kernel_rfl) rfl rfl)
                | (apply W.draw2 (id := 33) [0, 0, 0, 0, 8, 24, 0, 0, 0, 256, 896, 1920, 4092, 8188, 16383, 32767] [[9], [10], [0], [6], [138], [139], [10], [10], [3], [143], [142, 144], [145], [137, 140, 141, 146], [147], [135, 136]] 15 [(135, 512), (136, 1024), (137, 1), (138, 64), (139, 348449143727040986586495598010130648530944), (140, 696898287454081973172991196020261297061888), (141, 1024), (142, 1024), (143, 8), (144, 11150372599265311570767859136324180752990208), (145, 27875931498163278926919647840810451882475520), (146, 44601490397061246283071436545296723011960832), (147, 93558595090710504898474068065720079130558464), (148, 178405961588244985132285746181186892047843328), (149, 130668428897640369969935849253798993199104)] mixed (by kernel_rfl) rfl rfl)
                | ((first | apply U_ | apply Lex.u | (apply Lex.g; exact rfl; exact rfl) | (apply Lex.gq; exact rfl; exact rfl)); (first
    | exact QX.Nil TYok
    | exact QX.Move TYok
    | exact QX.Asg TYok
    | exact QX.Fld TYok
    | exact QX.Ld TYok
    | exact QX.Bin TYok
    | exact QX.Un TYok
    | exact QX.Len TYok
    | exact QX.Idx TYok
    | exact QX.Cut TYok); exact rfl)
                | refine SX.Alloc TYok (h := ?_)
                | refine SX.Store TYok (h := ?_)
                | refine SX.Lit TYok (h := ?_)
                | refine SX.Make TYok (h := ?_)
                | refine SX.App TYok (h := ?_)
                | refine SX.Box TYok (h := ?_)
                | (apply S_isnil TYok; exact rfl; exact rfl; exact rfl; exact Ev.auto; intro bn hnil)
                | (refine W.condA (ht := fun hb => ?_) (hf := fun hb => ?_) <;> (try simp at hb) <;> (try (exfalso; omega))))
              refine W.weaken (Le.nilOwn (t := 11) (n := 72) (E := 3) (sz := 1) rfl) ?_
              apply W.loopP (σ := Nat) 152 [0, 3, 6, 9, 60] (fun j => j ≤ args.length) (fun j => [(11, (True, .slc 72)), (62, vI j), (10, vI k), (57, vI k), (61, vI args.length), (56, (True, .pv (cI days)))]) (fun j => [(0, ⟨48, 2, [rowR (ts.drop (listFs l).length) days]⟩), (3, ⟨24, 5, [[.int .i64 op, .int .i64 n, .int .i64 u, .str s, .sl (l.map encX)]]⟩), (46, ⟨29, 1, args.map encR⟩), (52, ⟨3, 1, m.map encI⟩), (72, ⟨3, 1, ((args.take j).map fun r => nth r k).map encI⟩)]) (fun j => args.length - j) (0)
              case hp => repeat (first | exact Pick.nil | apply Pick.cons rfl)
              case h0 =>
                refine ⟨by simp, ?_⟩
                simp only [List.take_zero, List.map_nil]
                exact Le.auto
              case round =>
                rintro j hj1
                apply W.norm (by repeat (first | exact App.nil | apply App.cons))
                by_cases hj : j < args.length
                · have hr1 := hR _ (nth_mem hj)
                  have hr2 : ((nth args ((j : Nat) : Int).toNat).length : Int) = days := hr1
                  repeat' (first
                    | apply RG.nil
                    | apply Lex.nil
                    | apply Then.n
                    | apply Then.r
                    | apply Then.x
                    | apply InBlock.n
                    | apply InBlock.r
                    | apply InBlock.hit
                    | (apply InBlock.miss; exact rfl)
                    | apply W.seq
                    | apply W.region
                    | apply W.block
                    | apply W.skip
                    | apply W.ret
                    | apply W.exit
                    | (apply W.draw2 (id := 29) [0, 0, 0, 0, 8, 24, 0, 0, 128, 448, 960, 0, 4092, 8188, 16383, 32767] [[9], [10], [0], [6], [104], [105], [10], [3], [108], [107, 109], [110], [10], [103, 106, 111, 112], [113], [101, 102]] 15 [(101, 512), (102, 1024), (103, 1), (104, 64), (105, 20282409603651670423947251286016), (106, 40564819207303340847894502572032), (107, 1024), (108, 8), (109, 324518553658426726783156020576256), (110, 811296384146066816957890051440640), (111, 1298074214633706907132624082305024), (112, 1024), (113, 7879716131018673959703507124617216), (114, 10384593717069655257060992658440192), (115, 7605903601369376408980219232256)] mixed (by kernel_rfl) rfl rfl)
                    | (apply W.draw2 (id := 31) [0, 0, 0, 0, 8, 24, 0, 0, 128, 448, 960, 0, 4092, 8188, 16383, 32767] [[9], [10], [0], [6], [121], [122], [10], [3], [125], [124, 126], [127], [10], [120, 123, 128, 129], [130], [118, 119]] 15 [(118, 512), (119, 1024), (120, 1), (121, 64), (122, 2658455991569831745807614120560689152), (123, 5316911983139663491615228241121378304), (124, 1024), (125, 8), (126, 42535295865117307932921825928971026432), (127, 106338239662793269832304564822427566080), (128, 170141183460469231731687303715884105728), (129, 1024), (130, 1032810152724879633246258085837827735552), (131, 1361129467683753853853498429727072845824), (132, 996920996838686904677855295210258432)] mixed (by kernel_rfl) rfl rfl)
                    | (apply W.draw2 (id := 33) [0, 0, 0, 0, 8, 24, 0, 0, 0, 256, 896, 1920, 4092, 8188, 16383, 32767] [[9], [10], [0], [6], [138], [139], [10], [10], [3], [143], [142, 144], [145], [137, 140, 141, 146], [147], [135, 136]] 15 [(135, 512), (136, 1024), (137, 1), (138, 64), (139, 348449143727040986586495598010130648530944), (140, 696898287454081973172991196020261297061888), (141, 1024), (142, 1024), (143, 8), (144, 11150372599265311570767859136324180752990208), (145, 27875931498163278926919647840810451882475520), (146, 44601490397061246283071436545296723011960832), (147, 93558595090710504898474068065720079130558464), (148, 178405961588244985132285746181186892047843328), (149, 130668428897640369969935849253798993199104)] mixed (by kernel_rfl) rfl rfl)
                    | ((first | apply U_ | apply Lex.u | (apply Lex.g; exact rfl; exact rfl) | (apply Lex.gq; exact rfl; exact rfl)); (first
    | exact QX.Nil TYok
    | exact QX.Move TYok
    | exact QX.Asg TYok
    | exact QX.Fld TYok
    | exact QX.Ld TYok
    | exact QX.Bin TYok
    | exact QX.Un TYok
    | exact QX.Len TYok
    | exact QX.Idx TYok
    | exact QX.Cut TYok); exact rfl)
                    | refine SX.Alloc TYok (h := ?_)
                    | refine SX.Store TYok (h := ?_)
                    | refine SX.Lit TYok (h := ?_)
                    | refine SX.Make TYok (h := ?_)
                    | refine SX.App TYok (h := ?_)
                    | refine SX.Box TYok (h := ?_)
                    | (apply S_isnil TYok; exact rfl; exact rfl; exact rfl; exact Ev.auto; intro bn hnil)
                    | (refine W.condA (ht := fun hb => ?_) (hf := fun hb => ?_) <;> (try simp at hb) <;> (try (exfalso; omega))))
                  refine ⟨j + 1, by omega, ?_, ?_⟩
                  · simp only [take_nth hj, List.map_append, List.map_cons, List.map_nil]
                    exact Le.auto
                  · (try simp only); omega
                · obtain rfl : j = args.length := by omega
                  have hn2 : args.take args.length = args := List.take_length
                  simp only [hn2]
                  have hv : m.set k (valF days op n args k) = m.set k (valF days op n args k) := rfl
                  have hr1 : ((nth args 0).length : Int) = days := hR _ (nth_mem (by omega))
                  have hmap : (args.map fun r => nth r k).length = args.length := List.length_map ..
                  have wl1 := win_len (l := nth args 0) (days := days) (lo := (k : Int) - n + 1) (hi := k) (by omega)
                  have wl2 := win_len (l := nth args 0) (days := days) (lo := k) (hi := (k : Int) + n - 1) (by omega)
                  repeat' (first
                    | apply RG.nil
                    | apply Lex.nil
                    | apply Then.n
                    | apply Then.r
                    | apply Then.x
                    | apply InBlock.n
                    | apply InBlock.r
                    | apply InBlock.hit
                    | (apply InBlock.miss; exact rfl)
                    | apply W.seq
                    | apply W.region
                    | apply W.block
                    | apply W.skip
                    | apply W.ret
                    | apply W.exit
                    | (apply W.draw2 (id := 29) [0, 0, 0, 0, 8, 24, 0, 0, 128, 448, 960, 0, 4092, 8188, 16383, 32767] [[9], [10], [0], [6], [104], [105], [10], [3], [108], [107, 109], [110], [10], [103, 106, 111, 112], [113], [101, 102]] 15 [(101, 512), (102, 1024), (103, 1), (104, 64), (105, 20282409603651670423947251286016), (106, 40564819207303340847894502572032), (107, 1024), (108, 8), (109, 324518553658426726783156020576256), (110, 811296384146066816957890051440640), (111, 1298074214633706907132624082305024), (112, 1024), (113, 7879716131018673959703507124617216), (114, 10384593717069655257060992658440192), (115, 7605903601369376408980219232256)] mixed (by kernel_rfl) rfl rfl)
                    | (apply W.draw2 (id := 31) [0, 0, 0, 0, 8, 24, 0, 0, 128, 448, 960, 0, 4092, 8188, 16383, 32767] [[9], [10], [0], [6], [121], [122], [10], [3], [125], [124, 126], [127], [10], [120, 123, 128, 129], [130], [118, 119]] 15 [(118, 512), (119, 1024), (120, 1), (121, 64), (122, 2658455991569831745807614120560689152), (123, 5316911983139663491615228241121378304), (124, 1024), (125, 8), (126, 42535295865117307932921825928971026432), (127, 106338239662793269832304564822427566080), (128, 170141183460469231731687303715884105728), (129, 1024), (130, 1032810152724879633246258085837827735552), (131, 1361129467683753853853498429727072845824), (132, 996920996838686904677855295210258432)] mixed (by kernel_rfl) rfl rfl)
                    | (apply W.draw2 (id := 33) [0, 0, 0, 0, 8, 24, 0, 0, 0, 256, 896, 1920, 4092, 8188, 16383, 32767] [[9], [10], [0], [6], [138], [139], [10], [10], [3], [143], [142, 144], [145], [137, 140, 141, 146], [147], [135, 136]] 15 [(135, 512), (136, 1024), (137, 1), (138, 64), (139, 348449143727040986586495598010130648530944), (140, 696898287454081973172991196020261297061888), (141, 1024), (142, 1024), (143, 8), (144, 11150372599265311570767859136324180752990208), (145, 27875931498163278926919647840810451882475520), (146, 44601490397061246283071436545296723011960832), (147, 93558595090710504898474068065720079130558464), (148, 178405961588244985132285746181186892047843328), (149, 130668428897640369969935849253798993199104)] mixed (by kernel_rfl) rfl rfl)
                    | ((first | apply U_ | apply Lex.u | (apply Lex.g; exact rfl; exact rfl) | (apply Lex.gq; exact rfl; exact rfl)); (first
    | exact QX.Nil TYok
    | exact QX.Move TYok
    | exact QX.Asg TYok
    | exact QX.Fld TYok
    | exact QX.Ld TYok
    | exact QX.Bin TYok
    | exact QX.Un TYok
    | exact QX.Len TYok
    | exact QX.Idx TYok
    | exact QX.Cut TYok
    | (apply Q_call (not_ok (nth (args.map fun r => nth r k) 0)); exact EvL.auto; exact rfl)
    | (apply Q_call (alld_ok (args.map fun r => nth r k) (by omega)); exact EvL.auto; exact rfl)
    | (apply Q_call (some_ok (args.map fun r => nth r k) (by omega)); exact EvL.auto; exact rfl)
    | (apply Q_callof (window_ok (ts.drop (listFs l).length) (nth args 0) days ((k : Int) - n + 1) k h0 hr1 (by omega) (by omega) (by omega)); exact rfl; (intro r hr; obtain ⟨_, _, rfl⟩ := List.mem_map.1 hr; rfl); exact EvL.auto)
    | (apply Q_callof (window_ok (ts.drop (listFs l).length) (nth args 0) days k ((k : Int) + n - 1) h0 hr1 (by omega) (by omega) (by omega)); exact rfl; (intro r hr; obtain ⟨_, _, rfl⟩ := List.mem_map.1 hr; rfl); exact EvL.auto)
    | (apply Q_calld (alld_ok (winF (nth args 0) days ((k : Int) - n + 1) k) wl1); exact EvD.auto)
    | (apply Q_calld (some_ok (winF (nth args 0) days ((k : Int) - n + 1) k) wl1); exact EvD.auto)
    | (apply Q_calld (some_ok (winF (nth args 0) days k ((k : Int) + n - 1)) wl2); exact EvD.auto)); exact rfl)
                    | refine SX.Alloc TYok (h := ?_)
                    | refine SX.Store TYok (h := ?_)
                    | refine SX.Lit TYok (h := ?_)
                    | refine SX.Make TYok (h := ?_)
                    | refine SX.App TYok (h := ?_)
                    | refine SX.Box TYok (h := ?_)
                    | (apply S_isnil TYok; exact rfl; exact rfl; exact rfl; exact Ev.auto; intro bn hnil)
                    | (refine W.condA (ht := fun hb => ?_) (hf := fun hb => ?_) <;> (try simp at hb) <;> (try (exfalso; omega))))
                  · have e : valF days op n args k = notF (nth (args.map fun r => nth r k) 0) := by rw [valF, if_pos hb]
                    refine ⟨(k + 1, m.set k (valF days op n args k)), ⟨by omega, by simp [r2], ?_⟩, ?_, ?_⟩
                    · rw [take_set_nth (by omega), r3, List.range_succ, List.map_append]; rfl
                    · rw [e]
                      exact Le.auto
                    · simp only; omega
                  · have e : valF days op n args k = allF (args.map fun r => nth r k) := by rw [valF, if_neg (by omega), if_pos hb]
                    refine ⟨(k + 1, m.set k (valF days op n args k)), ⟨by omega, by simp [r2], ?_⟩, ?_, ?_⟩
                    · rw [take_set_nth (by omega), r3, List.range_succ, List.map_append]; rfl
                    · rw [e]
                      exact Le.auto
                    · simp only; omega
                  · have e : valF days op n args k = someF (args.map fun r => nth r k) := by rw [valF, if_neg (by omega), if_neg (by omega), if_pos hb]
                    refine ⟨(k + 1, m.set k (valF days op n args k)), ⟨by omega, by simp [r2], ?_⟩, ?_, ?_⟩
                    · rw [take_set_nth (by omega), r3, List.range_succ, List.map_append]; rfl
                    · rw [e]
                      exact Le.auto
                    · simp only; omega
                  · have e : valF days op n args k = someF (winF (nth args 0) days ((k : Int) - n + 1) k) := by rw [valF, if_neg (by omega), if_neg (by omega), if_neg (by omega), if_pos hb]
                    refine ⟨(k + 1, m.set k (valF days op n args k)), ⟨by omega, by simp [r2], ?_⟩, ?_, ?_⟩
                    · rw [take_set_nth (by omega), r3, List.range_succ, List.map_append]; rfl
                    · rw [e]
                      exact Le.auto
                    · simp only; omega
                  · have e : valF days op n args k = allF (winF (nth args 0) days ((k : Int) - n + 1) k) := by rw [valF, if_neg (by omega), if_neg (by omega), if_neg (by omega), if_neg (by omega), if_pos hb]
                    refine ⟨(k + 1, m.set k (valF days op n args k)), ⟨by omega, by simp [r2], ?_⟩, ?_, ?_⟩
                    · rw [take_set_nth (by omega), r3, List.range_succ, List.map_append]; rfl
                    · rw [e]
                      exact Le.auto
                    · simp only; omega
                  · have e : valF days op n args k = someF (winF (nth args 0) days k ((k : Int) + n - 1)) := by rw [valF, if_neg (by omega), if_neg (by omega), if_neg (by omega), if_neg (by omega), if_neg (by omega)]
                    refine ⟨(k + 1, m.set k (valF days op n args k)), ⟨by omega, by simp [r2], ?_⟩, ?_, ?_⟩
                    · rw [take_set_nth (by omega), r3, List.range_succ, List.map_append]; rfl
                    · rw [e]
                      exact Le.auto
                    · simp only; omega
            · obtain rfl : k = days.toNat := by omega
              have e : m = (List.range days.toNat).map (valF days op n args) := by
                rw [← r3, List.take_of_length_le (by omega)]
              subst e
              repeat' (first
                | apply RG.nil
                | apply Lex.nil
                | apply Then.n
                | apply Then.r
                | apply Then.x
                | apply InBlock.n
                | apply InBlock.r
                | apply InBlock.hit
                | (apply InBlock.miss; exact rfl)
                | apply W.seq
                | apply W.region
                | apply W.block
                | apply W.skip
                | apply W.ret
                | apply W.exit
                | (apply W.draw2 (id := 29) [0, 0, 0, 0, 8, 24, 0, 0, 128, 448, 960, 0, 4092, 8188, 16383, 32767] [[9], [10], [0], [6], [104], [105], [10], [3], [108], [107, 109], [110], [10], [103, 106, 111, 112], [113], [101, 102]] 15 [(101, 512), (102, 1024), (103, 1), (104, 64), (105, 20282409603651670423947251286016), (106, 40564819207303340847894502572032), (107, 1024), (108, 8), (109, 324518553658426726783156020576256), (110, 811296384146066816957890051440640), (111, 1298074214633706907132624082305024), (112, 1024), (113, 7879716131018673959703507124617216), (114, 10384593717069655257060992658440192), (115, 7605903601369376408980219232256)] mixed (by kernel_rfl) rfl rfl)
                | (apply W.draw2 (id := 31) [0, 0, 0, 0, 8, 24, 0, 0, 128, 448, 960, 0, 4092, 8188, 16383, 32767] [[9], [10], [0], [6], [121], [122], [10], [3], [125], [124, 126], [127], [10], [120, 123, 128, 129], [130], [118, 119]] 15 [(118, 512), (119, 1024), (120, 1), (121, 64), (122, 2658455991569831745807614120560689152), (123, 5316911983139663491615228241121378304), (124, 1024), (125, 8), (126, 42535295865117307932921825928971026432), (127, 106338239662793269832304564822427566080), (128, 170141183460469231731687303715884105728), (129, 1024), (130, 1032810152724879633246258085837827735552), (131, 1361129467683753853853498429727072845824), (132, 996920996838686904677855295210258432)] mixed (by kernel_rfl) rfl rfl)
                | (apply W.draw2 (id := 33) [0, 0, 0, 0, 8, 24, 0, 0, 0, 256, 896, 1920, 4092, 8188, 16383, 32767] [[9], [10], [0], [6], [138], [139], [10], [10], [3], [143], [142, 144], [145], [137, 140, 141, 146], [147], [135, 136]] 15 [(135, 512), (136, 1024), (137, 1), (138, 64), (139, 348449143727040986586495598010130648530944), (140, 696898287454081973172991196020261297061888), (141, 1024), (142, 1024), (143, 8), (144, 11150372599265311570767859136324180752990208), (145, 27875931498163278926919647840810451882475520), (146, 44601490397061246283071436545296723011960832), (147, 93558595090710504898474068065720079130558464), (148, 178405961588244985132285746181186892047843328), (149, 130668428897640369969935849253798993199104)] mixed (by kernel_rfl) rfl rfl)
                | ((first | apply U_ | apply Lex.u | (apply Lex.g; exact rfl; exact rfl) | (apply Lex.gq; exact rfl; exact rfl)); (first
    | exact QX.Nil TYok
    | exact QX.Move TYok
    | exact QX.Asg TYok
    | exact QX.Fld TYok
    | exact QX.Ld TYok
    | exact QX.Bin TYok
    | exact QX.Un TYok
    | exact QX.Len TYok
    | exact QX.Idx TYok
    | exact QX.Cut TYok); exact rfl)
                | refine SX.Alloc TYok (h := ?_)
                | refine SX.Store TYok (h := ?_)
                | refine SX.Lit TYok (h := ?_)
                | refine SX.Make TYok (h := ?_)
                | refine SX.App TYok (h := ?_)
                | refine SX.Box TYok (h := ?_)
                | (apply S_isnil TYok; exact rfl; exact rfl; exact rfl; exact Ev.auto; intro bn hnil)
                | (refine W.condA (ht := fun hb => ?_) (hf := fun hb => ?_) <;> (try simp at hb) <;> (try (exfalso; omega))))
              exact FinB.ret 0 rfl rfl rfl ResD.auto
end Go.Proofs.Ytacilhkipekjlaa
