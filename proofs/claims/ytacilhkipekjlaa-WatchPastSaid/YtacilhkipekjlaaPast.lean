/-
  WatchPast
-/
import Derived.Test.YtacilhkipekjlaaLaw2
import Derived.Test.YtacilhkipekjlaaGrows
set_option linter.unusedVariables false
set_option linter.unusedSimpArgs false
set_option maxHeartbeats 8000000
namespace Go.Proofs.Ytacilhkipekjlaa
open Lf Go
attribute [local irreducible] PureOp EffOp Ev RG W Then InBlock Lf.Fin nth App InitE Pick SubE SubF SubG EvL EvD EvP EvR ResL Lf.Lex SubR SubBR RA RAll EvC FinO FinM ResM FinB ResD

/-! ### WatchPast -/
theorem coming_ok (e : Exp) : OkE e → ACalls Try.prog 16 [aE e] (.pv (cB (comingF e))) := by
  refine Exp.ind (P := fun e => OkE e → ACalls Try.prog 16 [aE e] (.pv (cB (comingF e)))) (fun op n u s l ih he => ?_) e
  cases he with
  | mk hs hl h =>
  have e0 : comingF (.mk op n u s l) = (decide (op = 18) || l.any comingF) := by rw [comingF, comingFs_any]
  rw [aE_mk, e0]
  refine ACalls.of_W (qs := [cB (decide (op = 18) || l.any comingF)]) [2] 22 Try.func16 (by kernel_rfl) rfl rfl rfl fun G => ?_
  refine W.initA (hw := ?_)
  repeat' (first
    | apply RG.nil
    | apply Lex.nil
    | apply Then.n
    | apply Then.r
    | apply Then.x
    | apply InBlock.n
    | apply InBlock.r
    | apply InBlock.hit
    | (apply InBlock.miss; exact rfl)
    | apply W.seq
    | apply W.region
    | apply W.block
    | apply W.skip
    | apply W.ret
    | apply W.exit
    | ((first | apply U_); (first
    | exact QX.Move TYok
    | exact QX.Asg TYok
    | exact QX.Fld TYok
    | exact QX.Ld TYok
    | exact QX.Bin TYok
    | exact QX.Len TYok
    | exact QX.Idx TYok); exact rfl)
    | refine SX.Box TYok (h := ?_)
    | (apply S_isnil TYok; exact rfl; exact rfl; exact rfl; exact Ev.auto; intro bn hnil)
    | (refine W.condA (ht := fun hb => ?_) (hf := fun hb => ?_) <;> (try simp at hb) <;> (try (exfalso; omega))))
  · rw [decide_eq_true hb]; exact Fin.ret ResL.auto
  rw [decide_eq_false hb, Bool.false_or]
  apply W.loopP (σ := Nat) 22 [1] (fun k => k ≤ l.length ∧ (l.take k).any comingF = false) (fun k => [(3, vI k)]) (fun _ => [(1, ⟨24, 5, [[.int .i64 op, .int .i64 n, .int .i64 u, .str s, .sl (l.map encX)]]⟩)]) (fun k => l.length - k) (0)
  case hp => repeat (first | exact Pick.nil | apply Pick.cons rfl)
  case h0 =>
    refine ⟨by simp, ?_⟩
    exact Le.auto
  case round =>
    rintro k ⟨k1, k2⟩
    apply W.norm (by repeat (first | exact App.nil | apply App.cons))
    by_cases hk : k < l.length
    · have q := ih (nth l k) (nth_mem hk) (h _ (nth_mem hk))
      cases hc : comingF (nth l k) with
      | true =>
        rw [hc] at q
        have e1 : l.any comingF = true := List.any_eq_true.2 ⟨_, nth_mem hk, hc⟩
        rw [e1]
        repeat' (first
          | apply RG.nil
          | apply Lex.nil
          | apply Then.n
          | apply Then.r
          | apply Then.x
          | apply InBlock.n
          | apply InBlock.r
          | apply InBlock.hit
          | (apply InBlock.miss; exact rfl)
          | apply W.seq
          | apply W.region
          | apply W.block
          | apply W.skip
          | apply W.ret
          | apply W.exit
          | ((first | apply U_); (first
    | exact QX.Move TYok
    | exact QX.Asg TYok
    | exact QX.Fld TYok
    | exact QX.Ld TYok
    | exact QX.Bin TYok
    | exact QX.Len TYok
    | exact QX.Idx TYok
    | (apply Q_calld (q); exact EvD.auto)); exact rfl)
          | refine SX.Box TYok (h := ?_)
          | (apply S_isnil TYok; exact rfl; exact rfl; exact rfl; exact Ev.auto; intro bn hnil)
          | (refine W.condA (ht := fun hb => ?_) (hf := fun hb => ?_) <;> (try simp at hb) <;> (try (exfalso; omega))))
        exact Fin.ret ResL.auto
      | false =>
        rw [hc] at q
        repeat' (first
          | apply RG.nil
          | apply Lex.nil
          | apply Then.n
          | apply Then.r
          | apply Then.x
          | apply InBlock.n
          | apply InBlock.r
          | apply InBlock.hit
          | (apply InBlock.miss; exact rfl)
          | apply W.seq
          | apply W.region
          | apply W.block
          | apply W.skip
          | apply W.ret
          | apply W.exit
          | ((first | apply U_); (first
    | exact QX.Move TYok
    | exact QX.Asg TYok
    | exact QX.Fld TYok
    | exact QX.Ld TYok
    | exact QX.Bin TYok
    | exact QX.Len TYok
    | exact QX.Idx TYok
    | (apply Q_calld (q); exact EvD.auto)); exact rfl)
          | refine SX.Box TYok (h := ?_)
          | (apply S_isnil TYok; exact rfl; exact rfl; exact rfl; exact Ev.auto; intro bn hnil)
          | (refine W.condA (ht := fun hb => ?_) (hf := fun hb => ?_) <;> (try simp at hb) <;> (try (exfalso; omega))))
        refine ⟨k + 1, ⟨by omega, ?_⟩, ?_, ?_⟩
        · rw [take_nth hk, List.any_append, k2]; simp [hc]
        · exact Le.auto
        · (try simp only); omega
    · obtain rfl : k = l.length := by omega
      rw [List.take_length] at k2
      rw [k2]
      repeat' (first
        | apply RG.nil
        | apply Lex.nil
        | apply Then.n
        | apply Then.r
        | apply Then.x
        | apply InBlock.n
        | apply InBlock.r
        | apply InBlock.hit
        | (apply InBlock.miss; exact rfl)
        | apply W.seq
        | apply W.region
        | apply W.block
        | apply W.skip
        | apply W.ret
        | apply W.exit
        | ((first | apply U_); (first
    | exact QX.Move TYok
    | exact QX.Asg TYok
    | exact QX.Fld TYok
    | exact QX.Ld TYok
    | exact QX.Bin TYok
    | exact QX.Len TYok
    | exact QX.Idx TYok); exact rfl)
        | refine SX.Box TYok (h := ?_)
        | (apply S_isnil TYok; exact rfl; exact rfl; exact rfl; exact Ev.auto; intro bn hnil)
        | (refine W.condA (ht := fun hb => ?_) (hf := fun hb => ?_) <;> (try simp at hb) <;> (try (exfalso; omega))))
      exact Fin.ret ResL.auto
def openR (r : List Int) : Bool := r.any fun x => decide (x = 2)
def openF (ts : List (List Int)) : Bool := ts.any openR
theorem open_no {ts : List (List Int)} (h : openF ts = false) : No2 ts := by
  intro r hr q
  have := List.any_eq_false.1 h r hr
  apply this
  exact List.any_eq_true.2 ⟨2, q, by decide⟩
theorem past_ok25 (e : Exp) (ts : List (List Int)) (days w : Int) (hw : 0 ≤ w ∧ w ≤ 255) (he : OkE e) (ht : ts.length ≤ 9223372036854775807) : ACalls Try.prog 5 [aE e, slR ts, cI days, c8 w] (.pv (cB true)) := by
  have h0 := small_ok
  have h1 := fewE_ok e he
  have h2 := fewT_ok ts ht
  have h3 := coming_ok e he
  by_cases hc : countF 12 e ≤ 60 ∧ fewF ts = true ∧ days ≤ 20 ∧ comingF e = false
  case neg =>
    refine ACalls.of_W (qs := [cB true]) [8] 142 Try.func5 (by kernel_rfl) rfl rfl rfl fun G => ?_
    refine W.initA (hw := ?_)
    repeat' (first
      | apply RG.nil
      | apply Lex.nil
      | apply Then.n
      | apply Then.r
      | apply Then.x
      | apply InBlock.n
      | apply InBlock.r
      | apply InBlock.hit
      | (apply InBlock.miss; exact rfl)
      | apply W.seq
      | apply W.region
      | apply W.block
      | apply W.skip
      | apply W.ret
      | apply W.exit
      | ((first | apply U_ | (apply Ug_; exact rfl; exact rfl) | (apply Ugq_; exact rfl; exact rfl)); (first
    | exact QX.Move TYok
    | exact QX.Asg TYok
    | exact QX.Ld TYok
    | exact QX.Bin TYok
    | exact QX.Pick TYok
    | exact QX.Un TYok
    | exact QX.Len TYok
    | exact QX.Idx TYok
    | exact QX.Ext TYok
    | exact QX.Conv TYok
    | exact QX.Cut TYok
    | (apply Q_calld (h0); exact EvD.auto)
    | (apply Q_calld (h1); exact EvD.auto)
    | (apply Q_call (h2); exact EvL.auto; exact rfl)
    | (apply Q_calld (h3); exact EvD.auto)); exact rfl)
      | refine SX.Lit TYok (h := ?_)
      | refine SX.App TYok (h := ?_)
      | refine SX.Box TYok (h := ?_)
      | (apply S_isnil TYok; exact rfl; exact rfl; exact rfl; exact Ev.auto; intro bn hnil)
      | (apply RG.gT; exact rfl; exact rfl; (first | assumption | decide))
      | (apply RG.gF; exact rfl; exact rfl; (first | assumption | decide | (rw [ne_eq, Bool.not_eq_true]; assumption) | (rw [ne_eq, Bool.not_eq_false]; assumption)); exact rfl)
      | (refine W.condA (ht := fun hb => ?_) (hf := fun hb => ?_) <;> (try simp at hb) <;> (try (exfalso; omega))))
    · exact Fin.ret ResL.auto
    all_goals (exfalso; apply hc; simp_all; done)
  obtain ⟨w1, w2, w4, w3⟩ := hc
  rw [decide_eq_true w1] at h1
  rw [w2] at h2
  rw [w3] at h3
  obtain ⟨x1, x2⟩ := few_mem w2
  have hcl : ((listF e).length : Int) ≤ 60 := by have := count_atoms 12 e w1; omega
  have h4 := run_ok e ts days he (by omega) (by omega) (fun t h => by have := x2 t h; omega)
  cases hfit : fitF e ts days with
  | false =>
    have e0 : runF e ts days = ([], 1) := by rw [runF, if_neg (by rw [hfit]; decide)]
    rw [e0] at h4
    refine ACalls.of_W (qs := [cB true]) [8] 142 Try.func5 (by kernel_rfl) rfl rfl rfl fun G => ?_
    refine W.initA (hw := ?_)
    repeat' (first
      | apply RG.nil
      | apply Lex.nil
      | apply Then.n
      | apply Then.r
      | apply Then.x
      | apply InBlock.n
      | apply InBlock.r
      | apply InBlock.hit
      | (apply InBlock.miss; exact rfl)
      | apply W.seq
      | apply W.region
      | apply W.block
      | apply W.skip
      | apply W.ret
      | apply W.exit
      | ((first | apply U_ | (apply Ug_; exact rfl; exact rfl) | (apply Ugq_; exact rfl; exact rfl)); (first
    | exact QX.Move TYok
    | exact QX.Asg TYok
    | exact QX.Ld TYok
    | exact QX.Bin TYok
    | exact QX.Pick TYok
    | exact QX.Un TYok
    | exact QX.Len TYok
    | exact QX.Idx TYok
    | exact QX.Ext TYok
    | exact QX.Conv TYok
    | exact QX.Cut TYok
    | (apply Q_calld (h0); exact EvD.auto)
    | (apply Q_calld (h1); exact EvD.auto)
    | (apply Q_call (h2); exact EvL.auto; exact rfl)
    | (apply Q_calld (h3); exact EvD.auto)
    | (apply Q_calld (h4); exact EvD.auto)); exact rfl)
      | refine SX.Lit TYok (h := ?_)
      | refine SX.App TYok (h := ?_)
      | refine SX.Box TYok (h := ?_)
      | (apply S_isnil TYok; exact rfl; exact rfl; exact rfl; exact Ev.auto; intro bn hnil)
      | (apply RG.gT; exact rfl; exact rfl; (first | assumption | decide))
      | (apply RG.gF; exact rfl; exact rfl; (first | assumption | decide | (rw [ne_eq, Bool.not_eq_true]; assumption) | (rw [ne_eq, Bool.not_eq_false]; assumption)); exact rfl)
      | (refine W.condA (ht := fun hb => ?_) (hf := fun hb => ?_) <;> (try simp at hb) <;> (try (exfalso; omega))))
    exact Fin.ret ResL.auto
  | true =>
    obtain ⟨g1, g2, g3, g4, g5, g6⟩ := fit_get hfit
    have e0 : runF e ts days = (nodeF days e ts, 0) := by rw [runF, if_pos hfit]
    have hnn : 0 ≤ w % (days + 1) ∧ w % (days + 1) < days + 1 := ⟨Int.emod_nonneg _ (by omega), Int.emod_lt_of_pos _ (by omega)⟩
    obtain ⟨n, hn⟩ : ∃ n : Int, w % (days + 1) = n := ⟨_, rfl⟩
    rw [hn] at hnn
    have hnt : ((n.toNat : Nat) : Int) = n := by omega
    have rs := rel_short (n := n.toNat) (by omega) g5 g6
    rw [hnt] at rs
    have fs : fitF e (shortF ts n.toNat) n = true := fit_change hfit rs.len (by omega) (by omega) rs.rows rs.v
    have e2 : runF e (shortF ts n.toNat) n = (nodeF n e (shortF ts n.toNat), 0) := by rw [runF, if_pos fs]
    have ls1 : nodeF n e (shortF ts n.toNat) = (nodeF days e ts).take n.toNat := by
      have := nodeF_short (days := days) (n := n.toNat) (by omega) 12 e ts g1 w3 (by omega)
      rwa [hnt] at this
    have la : ((nodeF days e ts).length : Int) = days := nodeF_len g2 g5 (by omega)
    have va : V3 (nodeF days e ts) := nodeF_v3 e ts g1 g2 g5 g6 (by omega)
    have na : openF ts = false → (2 : Int) ∉ nodeF days e ts := fun q => nodeF_no g2 12 e ts g1 w3 g5 (open_no q) (by omega)
    have h6 := run_ok e (shortF ts n.toNat) n he (by omega) (by rw [rs.len]; omega) (fun t h => by have := rs.rows t h; omega)
    rw [e0] at h4
    rw [e2, ls1] at h6
    generalize nodeF days e ts = a at h4 h6 la va na
    replace h4 : ACalls Try.prog 10 [aE e, slR ts, cI days] (.tup [slI a, cI 0]) := h4
    replace h6 : ACalls Try.prog 10 [aE e, slR (shortF ts n.toNat), cI n] (.tup [slI (a.take n.toNat), cI 0]) := h6
    have h7 := ints_ok (a.take n.toNat) (a.take n.toNat) (by simp; omega) (by simp; omega)
    rw [decide_eq_true rfl] at h7
    refine ACalls.of_W (qs := [cB true]) [8] 142 Try.func5 (by kernel_rfl) rfl rfl rfl fun G => ?_
    refine W.initA (hw := ?_)
    repeat' (first
      | apply RG.nil
      | apply Lex.nil
      | apply Then.n
      | apply Then.r
      | apply Then.x
      | apply InBlock.n
      | apply InBlock.r
      | apply InBlock.hit
      | (apply InBlock.miss; exact rfl)
      | apply W.seq
      | apply W.region
      | apply W.block
      | apply W.skip
      | apply W.ret
      | apply W.exit
      | ((first | apply U_ | (apply Ug_; exact rfl; exact rfl) | (apply Ugq_; exact rfl; exact rfl)); (first
    | exact QX.Move TYok
    | exact QX.Asg TYok
    | exact QX.Ld TYok
    | exact QX.Bin TYok
    | exact QX.Pick TYok
    | exact QX.Un TYok
    | exact QX.Len TYok
    | exact QX.Idx TYok
    | exact QX.Ext TYok
    | exact QX.Conv TYok
    | exact QX.Cut TYok
    | (apply Q_calld (h0); exact EvD.auto)
    | (apply Q_calld (h1); exact EvD.auto)
    | (apply Q_call (h2); exact EvL.auto; exact rfl)
    | (apply Q_calld (h3); exact EvD.auto)
    | (apply Q_calld (h4); exact EvD.auto)); exact rfl)
      | refine SX.Lit TYok (h := ?_)
      | refine SX.App TYok (h := ?_)
      | refine SX.Box TYok (h := ?_)
      | (apply S_isnil TYok; exact rfl; exact rfl; exact rfl; exact Ev.auto; intro bn hnil)
      | (apply RG.gT; exact rfl; exact rfl; (first | assumption | decide))
      | (apply RG.gF; exact rfl; exact rfl; (first | assumption | decide | (rw [ne_eq, Bool.not_eq_true]; assumption) | (rw [ne_eq, Bool.not_eq_false]; assumption)); exact rfl)
      | (refine W.condA (ht := fun hb => ?_) (hf := fun hb => ?_) <;> (try simp at hb) <;> (try (exfalso; omega))))
    rw [hn]
    refine W.weaken (Le.nilOwn (t := 14) (n := 89) (E := 29) (sz := 1) rfl) ?_
    apply W.loopP (σ := Nat × Bool) 142 [1, 2, 4, 9, 10, 12] (fun (k, b) => k ≤ ts.length ∧ b = openF (ts.take k)) (fun (k, b) => [(13, (True, .pv (cB b))), (14, (True, .slc 89)), (15, vI k)]) (fun (k, b) => [(4, ⟨24, 5, [encX e]⟩), (89, ⟨29, 1, (shortF (ts.take k) n.toNat).map encR⟩)]) (fun (k, b) => ts.length - k) ((0, false))
    case hp => repeat (first | exact Pick.nil | apply Pick.cons rfl)
    case h0 =>
      refine ⟨⟨by simp, rfl⟩, ?_⟩
      exact Le.auto
    case round =>
      rintro ⟨k, b⟩ ⟨hk1, hk2⟩
      apply W.norm (by repeat (first | exact App.nil | apply App.cons))
      dsimp only
      by_cases hk : k < ts.length
      · have hx := x2 _ (nth_mem hk)
        repeat' (first
          | apply RG.nil
          | apply Lex.nil
          | apply Then.n
          | apply Then.r
          | apply Then.x
          | apply InBlock.n
          | apply InBlock.r
          | apply InBlock.hit
          | (apply InBlock.miss; exact rfl)
          | apply W.seq
          | apply W.region
          | apply W.block
          | apply W.skip
          | apply W.ret
          | apply W.exit
          | ((first | apply U_ | (apply Ug_; exact rfl; exact rfl) | (apply Ugq_; exact rfl; exact rfl)); (first
    | exact QX.Move TYok
    | exact QX.Asg TYok
    | exact QX.Ld TYok
    | exact QX.Bin TYok
    | exact QX.Pick TYok
    | exact QX.Un TYok
    | exact QX.Len TYok
    | exact QX.Idx TYok
    | exact QX.Ext TYok
    | exact QX.Conv TYok
    | exact QX.Cut TYok); exact rfl)
          | refine SX.Lit TYok (h := ?_)
          | refine SX.App TYok (h := ?_)
          | refine SX.Box TYok (h := ?_)
          | (apply S_isnil TYok; exact rfl; exact rfl; exact rfl; exact Ev.auto; intro bn hnil)
          | (apply RG.gT; exact rfl; exact rfl; (first | assumption | decide))
          | (apply RG.gF; exact rfl; exact rfl; (first | assumption | decide | (rw [ne_eq, Bool.not_eq_true]; assumption) | (rw [ne_eq, Bool.not_eq_false]; assumption)); exact rfl)
          | (refine W.condA (ht := fun hb => ?_) (hf := fun hb => ?_) <;> (try simp at hb) <;> (try (exfalso; omega))))
        apply W.loopP (σ := Nat × Bool) 142 [1, 2, 4, 9, 10, 12] (fun (j, c) => j ≤ (nth ts k).length ∧ c = (openF (ts.take k) || openR ((nth ts k).take j))) (fun (j, c) => [(13, (True, .pv (cB c))), (14, (True, .slc 89)), (15, vI k), (16, vI j)]) (fun (j, c) => [(4, ⟨24, 5, [encX e]⟩), (89, ⟨29, 1, (shortF (ts.take k) n.toNat).map encR⟩)]) (fun (j, c) => (nth ts k).length - j) ((0, b))
        case hp => repeat (first | exact Pick.nil | apply Pick.cons rfl)
        case h0 =>
          refine ⟨⟨by simp, by rw [hk2]; simp [openR]⟩, ?_⟩
          exact Le.auto
        case round =>
          rintro ⟨j, c⟩ ⟨r1, r2⟩
          apply W.norm (by repeat (first | exact App.nil | apply App.cons))
          dsimp only
          by_cases hj : j < (nth ts k).length
          · repeat' (first
              | apply RG.nil
              | apply Lex.nil
              | apply Then.n
              | apply Then.r
              | apply Then.x
              | apply InBlock.n
              | apply InBlock.r
              | apply InBlock.hit
              | (apply InBlock.miss; exact rfl)
              | apply W.seq
              | apply W.region
              | apply W.block
              | apply W.skip
              | apply W.ret
              | apply W.exit
              | ((first | apply U_ | (apply Ug_; exact rfl; exact rfl) | (apply Ugq_; exact rfl; exact rfl)); (first
    | exact QX.Move TYok
    | exact QX.Asg TYok
    | exact QX.Ld TYok
    | exact QX.Bin TYok
    | exact QX.Pick TYok
    | exact QX.Un TYok
    | exact QX.Len TYok
    | exact QX.Idx TYok
    | exact QX.Ext TYok
    | exact QX.Conv TYok
    | exact QX.Cut TYok); exact rfl)
              | refine SX.Lit TYok (h := ?_)
              | refine SX.App TYok (h := ?_)
              | refine SX.Box TYok (h := ?_)
              | (apply S_isnil TYok; exact rfl; exact rfl; exact rfl; exact Ev.auto; intro bn hnil)
              | (apply RG.gT; exact rfl; exact rfl; (first | assumption | decide))
              | (apply RG.gF; exact rfl; exact rfl; (first | assumption | decide | (rw [ne_eq, Bool.not_eq_true]; assumption) | (rw [ne_eq, Bool.not_eq_false]; assumption)); exact rfl)
              | (refine W.condA (ht := fun hb => ?_) (hf := fun hb => ?_) <;> (try simp at hb) <;> (try (exfalso; omega))))
            refine ⟨(j + 1, c || decide (nth (nth ts k) j = 2)), ⟨by omega, ?_⟩, ?_, ?_⟩
            · rw [r2, take_nth hj]; simp [openR, Bool.or_assoc]
            · exact Le.auto
            · simp only; omega
          · obtain rfl : j = (nth ts k).length := by omega
            rw [List.take_length] at r2
            have l2 : (shortF (ts.take k) n.toNat).length = k := by simp [shortF]; omega
            have hrow : ((nth ts k).length : Int) = days := g5 _ (nth_mem hk)
            repeat' (first
              | (refine RG.weaken (Le.freeze1 (m := 87) rfl) ?_)
              | apply RG.nil
              | apply Lex.nil
              | apply Then.n
              | apply Then.r
              | apply Then.x
              | apply InBlock.n
              | apply InBlock.r
              | apply InBlock.hit
              | (apply InBlock.miss; exact rfl)
              | apply W.seq
              | apply W.region
              | apply W.block
              | apply W.skip
              | apply W.ret
              | apply W.exit
              | ((first | apply U_ | (apply Ug_; exact rfl; exact rfl) | (apply Ugq_; exact rfl; exact rfl)); (first
    | exact QX.Move TYok
    | exact QX.Asg TYok
    | exact QX.Ld TYok
    | exact QX.Bin TYok
    | exact QX.Pick TYok
    | exact QX.Un TYok
    | exact QX.Len TYok
    | exact QX.Idx TYok
    | exact QX.Ext TYok
    | exact QX.Conv TYok
    | exact QX.Cut TYok); exact rfl)
              | refine SX.Lit TYok (h := ?_)
              | refine SX.App TYok (h := ?_)
              | refine SX.Box TYok (h := ?_)
              | (apply S_appendd TYok; exact Ev.auto; exact Ev.auto; exact rfl; exact rfl; exact rfl; exact rfl; exact rfl; exact rfl; exact rfl; exact rfl; (intro r hr; obtain ⟨_, _, rfl⟩ := List.mem_map.1 (List.mem_of_mem_take hr); rfl); (constructor <;> simp <;> omega); exact rfl)
              | (apply S_isnil TYok; exact rfl; exact rfl; exact rfl; exact Ev.auto; intro bn hnil)
              | (apply RG.gT; exact rfl; exact rfl; (first | assumption | decide))
              | (apply RG.gF; exact rfl; exact rfl; (first | assumption | decide | (rw [ne_eq, Bool.not_eq_true]; assumption) | (rw [ne_eq, Bool.not_eq_false]; assumption)); exact rfl)
              | (refine W.condA (ht := fun hb => ?_) (hf := fun hb => ?_) <;> (try simp at hb) <;> (try (exfalso; omega))))
            have ecut : encR ((nth ts k).take n.toNat) = [.sl ((List.map encI (nth ts k)).take n.toNat)] := by rw [encR, List.map_take]
            refine ⟨(k + 1, c), ⟨by omega, ?_⟩, ?_, ?_⟩
            · rw [r2, take_nth hk]; simp [openF]
            · simp only [short_succ hk, List.map_append, List.map_cons, List.map_nil, ecut]
              exact Le.auto
            · (try simp only); omega
      · obtain rfl : k = ts.length := by omega
        simp only [List.take_length] at hk2 ⊢
        refine W.weaken Le.freeze ?_
        repeat' (first
          | apply RG.nil
          | apply Lex.nil
          | apply Then.n
          | apply Then.r
          | apply Then.x
          | apply InBlock.n
          | apply InBlock.r
          | apply InBlock.hit
          | (apply InBlock.miss; exact rfl)
          | apply W.seq
          | apply W.region
          | apply W.block
          | apply W.skip
          | apply W.ret
          | apply W.exit
          | ((first | apply U_ | (apply Ug_; exact rfl; exact rfl) | (apply Ugq_; exact rfl; exact rfl)); (first
    | exact QX.Move TYok
    | exact QX.Asg TYok
    | exact QX.Ld TYok
    | exact QX.Bin TYok
    | exact QX.Pick TYok
    | exact QX.Un TYok
    | exact QX.Len TYok
    | exact QX.Idx TYok
    | exact QX.Ext TYok
    | exact QX.Conv TYok
    | exact QX.Cut TYok
    | (apply Q_calld (h6); exact EvD.auto)
    | (apply Q_call (h7); exact EvL.auto; exact rfl)); exact rfl)
          | refine SX.Lit TYok (h := ?_)
          | refine SX.App TYok (h := ?_)
          | refine SX.Box TYok (h := ?_)
          | (apply S_isnil TYok; exact rfl; exact rfl; exact rfl; exact Ev.auto; intro bn hnil)
          | (apply RG.gT; exact rfl; exact rfl; (first | assumption | decide))
          | (apply RG.gF; exact rfl; exact rfl; (first | assumption | decide | (rw [ne_eq, Bool.not_eq_true]; assumption) | (rw [ne_eq, Bool.not_eq_false]; assumption)); exact rfl)
          | (refine W.condA (ht := fun hb => ?_) (hf := fun hb => ?_) <;> (try simp at hb) <;> (try (exfalso; omega))))
        apply W.loopP (σ := Nat) 142 [2, 9, 10, 13] (fun d => (d : Int) ≤ days) (fun d => [(19, vI d)]) (fun _ => []) (fun d => days.toNat - d) (0)
        case hp => repeat (first | exact Pick.nil | apply Pick.cons rfl)
        case h0 =>
          refine ⟨by simpa using g2, ?_⟩
          exact Le.auto
        case round =>
          rintro d hd1
          apply W.norm (by repeat (first | exact App.nil | apply App.cons))
          by_cases hd : (d : Int) < days
          · have m1 := va _ (nth_mem (l := a) (k := d) (by omega))
            have m2 : b = false → nth a d ≠ 2 := fun q => by
              have := na (by rw [← hk2]; exact q)
              intro q2
              exact this (by rw [← q2]; exact nth_mem (by omega))
            cases b with
            | true =>
              repeat' (first
                | apply RG.nil
                | apply Lex.nil
                | apply Then.n
                | apply Then.r
                | apply Then.x
                | apply InBlock.n
                | apply InBlock.r
                | apply InBlock.hit
                | (apply InBlock.miss; exact rfl)
                | apply W.seq
                | apply W.region
                | apply W.block
                | apply W.skip
                | apply W.ret
                | apply W.exit
                | ((first | apply U_ | (apply Ug_; exact rfl; exact rfl) | (apply Ugq_; exact rfl; exact rfl)); (first
    | exact QX.Move TYok
    | exact QX.Asg TYok
    | exact QX.Ld TYok
    | exact QX.Bin TYok
    | exact QX.Pick TYok
    | exact QX.Un TYok
    | exact QX.Len TYok
    | exact QX.Idx TYok
    | exact QX.Ext TYok
    | exact QX.Conv TYok
    | exact QX.Cut TYok); exact rfl)
                | refine SX.Lit TYok (h := ?_)
                | refine SX.App TYok (h := ?_)
                | refine SX.Box TYok (h := ?_)
                | (apply S_isnil TYok; exact rfl; exact rfl; exact rfl; exact Ev.auto; intro bn hnil)
                | (apply RG.gT; exact rfl; exact rfl; (first | assumption | decide))
                | (apply RG.gF; exact rfl; exact rfl; (first | assumption | decide | (rw [ne_eq, Bool.not_eq_true]; assumption) | (rw [ne_eq, Bool.not_eq_false]; assumption)); exact rfl)
                | (refine W.condA (ht := fun hb => ?_) (hf := fun hb => ?_) <;> (try simp at hb) <;> (try (exfalso; omega))))
              refine ⟨d + 1, by omega, ?_, ?_⟩
              · exact Le.auto
              · (try simp only); omega
            | false =>
              have m3 := m2 rfl
              repeat' (first
                | apply RG.nil
                | apply Lex.nil
                | apply Then.n
                | apply Then.r
                | apply Then.x
                | apply InBlock.n
                | apply InBlock.r
                | apply InBlock.hit
                | (apply InBlock.miss; exact rfl)
                | apply W.seq
                | apply W.region
                | apply W.block
                | apply W.skip
                | apply W.ret
                | apply W.exit
                | ((first | apply U_ | (apply Ug_; exact rfl; exact rfl) | (apply Ugq_; exact rfl; exact rfl)); (first
    | exact QX.Move TYok
    | exact QX.Asg TYok
    | exact QX.Ld TYok
    | exact QX.Bin TYok
    | exact QX.Pick TYok
    | exact QX.Un TYok
    | exact QX.Len TYok
    | exact QX.Idx TYok
    | exact QX.Ext TYok
    | exact QX.Conv TYok
    | exact QX.Cut TYok); exact rfl)
                | refine SX.Lit TYok (h := ?_)
                | refine SX.App TYok (h := ?_)
                | refine SX.Box TYok (h := ?_)
                | (apply S_isnil TYok; exact rfl; exact rfl; exact rfl; exact Ev.auto; intro bn hnil)
                | (apply RG.gT; exact rfl; exact rfl; (first | assumption | decide))
                | (apply RG.gF; exact rfl; exact rfl; (first | assumption | decide | (rw [ne_eq, Bool.not_eq_true]; assumption) | (rw [ne_eq, Bool.not_eq_false]; assumption)); exact rfl)
                | (refine W.condA (ht := fun hb => ?_) (hf := fun hb => ?_) <;> (try simp at hb) <;> (try (exfalso; omega))))
              refine ⟨d + 1, by omega, ?_, ?_⟩
              · exact Le.auto
              · (try simp only); omega
          · obtain rfl : d = days.toNat := by omega
            repeat' (first
              | apply RG.nil
              | apply Lex.nil
              | apply Then.n
              | apply Then.r
              | apply Then.x
              | apply InBlock.n
              | apply InBlock.r
              | apply InBlock.hit
              | (apply InBlock.miss; exact rfl)
              | apply W.seq
              | apply W.region
              | apply W.block
              | apply W.skip
              | apply W.ret
              | apply W.exit
              | ((first | apply U_ | (apply Ug_; exact rfl; exact rfl) | (apply Ugq_; exact rfl; exact rfl)); (first
    | exact QX.Move TYok
    | exact QX.Asg TYok
    | exact QX.Ld TYok
    | exact QX.Bin TYok
    | exact QX.Pick TYok
    | exact QX.Un TYok
    | exact QX.Len TYok
    | exact QX.Idx TYok
    | exact QX.Ext TYok
    | exact QX.Conv TYok
    | exact QX.Cut TYok); exact rfl)
              | refine SX.Lit TYok (h := ?_)
              | refine SX.App TYok (h := ?_)
              | refine SX.Box TYok (h := ?_)
              | (apply S_isnil TYok; exact rfl; exact rfl; exact rfl; exact Ev.auto; intro bn hnil)
              | (apply RG.gT; exact rfl; exact rfl; (first | assumption | decide))
              | (apply RG.gF; exact rfl; exact rfl; (first | assumption | decide | (rw [ne_eq, Bool.not_eq_true]; assumption) | (rw [ne_eq, Bool.not_eq_false]; assumption)); exact rfl)
              | (refine W.condA (ht := fun hb => ?_) (hf := fun hb => ?_) <;> (try simp at hb) <;> (try (exfalso; omega))))
            exact Fin.ret ResL.auto
end Go.Proofs.Ytacilhkipekjlaa
