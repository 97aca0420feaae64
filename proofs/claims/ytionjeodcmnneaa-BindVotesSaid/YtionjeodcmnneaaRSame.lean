/-
  Equal indentures
-/
import Derived.Test.YtionjeodcmnneaaSame
import Derived.Test.YtionjeodcmnneaaLfDrawU
set_option linter.unusedVariables false
set_option linter.unusedSimpArgs false
set_option maxHeartbeats 8000000
namespace Go.Proofs.Ytionjeodcmnneaa
open Lf Go
attribute [local irreducible] PureOp EffOp Ev RG W Then InBlock Lf.Fin nth App InitE Pick SubE SubF SubG EvL EvD EvP EvR ResL Lf.Lex SubR SubBR RA RAll EvC FinO FinM ResM FinB ResD

/-! ### indentures -/
structure Ind where
  name : Str
  issuer : Str
  face : Int
  start : Int
  due : Int
  every : Int
  count : Int
  adjust : Int
  record : Int
  rank : Int
  lets : List Let
  coupon : Exp
  cap : Int
  covs : List Cov
  favour : List Str
  cross : Int
  calls : List Cl
  notice : Int
  sink : Int
  majority : Int
  fast : Int
instance : Inhabited Ind := ⟨⟨[], [], 0, 0, 0, 0, 0, 0, 0, 0, [], default, 0, [], [], 0, [], 0, 0, 0, 0⟩⟩
def encN (x : Ind) : List Cell := [.str x.name, .str x.issuer, .int .i64 x.face, .int .i64 x.start, .int .i64 x.due, .int .i64 x.every, .int .i64 x.count, .int .i64 x.adjust, .int .i64 x.record, .int .i64 x.rank, .sl (x.lets.map encL), .int .i64 x.coupon.op, .int .i64 x.coupon.n, .int .i64 x.coupon.u, .str x.coupon.s, .sl (x.coupon.args.map encE), .int .i64 x.cap, .sl (x.covs.map encV), .sl (x.favour.map encS), .int .i64 x.cross, .sl (x.calls.map encC), .int .i64 x.notice, .int .i64 x.sink, .int .i64 x.majority, .int .i64 x.fast]
abbrev aN (x : Ind) : PV := .agg (encN x)
abbrev slN (l : List Ind) : PV := .one (.sl (l.map encN))
structure OkN (x : Ind) : Prop where
  name : x.name.length ≤ 9223372036854775807
  issuer : x.issuer.length ≤ 9223372036854775807
  lets : x.lets.length ≤ 9223372036854775807
  letn : ∀ y ∈ x.lets, y.name.length ≤ 9223372036854775807
  lete : ∀ y ∈ x.lets, OkE y.body
  coupon : OkE x.coupon
  covs : x.covs.length ≤ 9223372036854775807
  covn : ∀ y ∈ x.covs, y.name.length ≤ 9223372036854775807
  cove : ∀ y ∈ x.covs, OkE y.must
  favour : x.favour.length ≤ 9223372036854775807
  favn : ∀ y ∈ x.favour, y.length ≤ 9223372036854775807
  calls : x.calls.length ≤ 9223372036854775807
def oneF (a b : Ind) : Bool := decide (a.name = b.name) && decide (a.issuer = b.issuer) && decide (a.face = b.face) && decide (a.start = b.start) && decide (a.due = b.due) && decide (a.every = b.every) && decide (a.count = b.count) && decide (a.adjust = b.adjust) && decide (a.record = b.record) && decide (a.rank = b.rank)
def numF (a b : Ind) : Bool := decide (a.cap = b.cap) && decide (a.cross = b.cross) && decide (a.notice = b.notice) && decide (a.sink = b.sink) && decide (a.majority = b.majority) && decide (a.fast = b.fast)
def sameN (a b : Ind) : Bool := oneF a b && (numF a b && eqL strF a.favour b.favour && eqL clF a.calls b.calls) && eqL letF a.lets b.lets && eqL covF a.covs b.covs && sameF a.coupon b.coupon
theorem same_ok (a b : Ind) (ha : OkN a) (hb : OkN b) : ACalls Try.prog 18 [aN a, aN b] (.pv (cB (sameN a b))) := by
  have h1 := eqS_ok a.favour b.favour ha.favour
  have h2 := eqC_ok a.calls b.calls ha.calls
  have h3 := eqfL_ok a.lets b.lets 34 [] letF ha.lets (fun x hx y hy => letEq2_ok x y (ha.lete x hx) (hb.lete y hy))
  have h4 := eqfV_ok a.covs b.covs 36 [] covF ha.covs (fun x hx y hy => covEq_ok x y (ha.cove x hx) (hb.cove y hy))
  have h5 := sameE_ok a.coupon ha.coupon b.coupon hb.coupon
  refine ACalls.of_W (qs := [cB (sameN a b)]) [4] 158 Try.func18 (by kernel_rfl) rfl rfl rfl fun G => ?_
  refine W.initA (hw := ?_)
  repeat' (first
    | apply RG.nil
    | apply Lex.nil
    | apply Then.n
    | apply Then.r
    | apply Then.x
    | apply InBlock.n
    | apply InBlock.r
    | apply InBlock.hit
    | (apply InBlock.miss; exact rfl)
    | apply W.seq
    | apply W.region
    | apply W.block
    | apply W.skip
    | apply W.ret
    | apply W.exit
    | ((first | apply U_ | (apply Ug_; exact rfl; exact rfl) | (apply Ugq_; exact rfl; exact rfl)); (first
    | exact QX.Move TYok
    | exact QX.Asg TYok
    | exact QX.Fld TYok
    | exact QX.Ld TYok
    | exact QX.Bin TYok
    | exact QX.Pick TYok
    | (apply Q_call (h1); exact EvL.auto; exact rfl)
    | (apply Q_call (h2); exact EvL.auto; exact rfl)
    | (apply Q_call (h3); exact EvL.auto; exact rfl)
    | (apply Q_call (h4); exact EvL.auto; exact rfl)
    | (apply Q_calld (h5); exact EvD.auto)); exact rfl)
    | refine SX.Box TYok (h := ?_)
    | (apply S_isnil TYok; exact rfl; exact rfl; exact rfl; exact Ev.auto; intro bn hnil)
    | (apply RG.gT; exact rfl; exact rfl; (first | assumption | decide))
    | (apply RG.gF; exact rfl; exact rfl; (first | assumption | decide | (rw [ne_eq, Bool.not_eq_true]; assumption) | (rw [ne_eq, Bool.not_eq_false]; assumption)); exact rfl)
    | (refine W.condA (ht := fun hb => ?_) (hf := fun hb => ?_) <;> (try simp at hb) <;> (try (exfalso; omega))))
  exact Fin.ret ResL.auto
/-! ### the reference -/
theorem rsameE_ok (e : Exp) : OkE e → ∀ e', OkE e' → ACalls Try.prog 49 [aE e, aE e'] (.pv (cB (sameF e e'))) := by
  refine Exp.ind (P := fun e => OkE e → ∀ e', OkE e' → ACalls Try.prog 49 [aE e, aE e'] (.pv (cB (sameF e e')))) (fun op n u s l ih he e' he' => ?_) e
  obtain ⟨op', n', u', s', l'⟩ := e'
  cases he with
  | mk hs hl h =>
  cases he' with
  | mk hs' hl' h' =>
  rw [aE_mk, aE_mk, sameF, sameFs_eq]
  by_cases hc : (op = op' ∧ n = n' ∧ u = u' ∧ s = s') ∧ l.length = l'.length
  case neg =>
    have e0 : (decide (op = op') && decide (n = n') && decide (u = u') && decide (s = s') && eqL sameF l l') = false := by
      cases hq : (decide (op = op') && decide (n = n') && decide (u = u') && decide (s = s') && eqL sameF l l') with
      | false => rfl
      | true =>
        simp only [Bool.and_eq_true, decide_eq_true_iff] at hq
        exact absurd ⟨⟨hq.1.1.1.1, hq.1.1.1.2, hq.1.1.2, hq.1.2⟩, eqL_len hq.2⟩ hc
    rw [e0]
    refine ACalls.of_W (qs := [cB false]) [4] 60 Try.func49 (by kernel_rfl) rfl rfl rfl fun G => ?_
    refine W.initA (hw := ?_)
    repeat' (first
      | apply RG.nil
      | apply Lex.nil
      | apply Then.n
      | apply Then.r
      | apply Then.x
      | apply InBlock.n
      | apply InBlock.r
      | apply InBlock.hit
      | (apply InBlock.miss; exact rfl)
      | apply W.seq
      | apply W.region
      | apply W.block
      | apply W.skip
      | apply W.ret
      | apply W.exit
      | (apply W.draw2 (id := 6) [0, 1, 0, 7, 15, 0, 32, 0, 224, 480, 1023, 2047] [[2], [48], [5], [49, 50], [51], [3], [53], [5], [54, 55], [56], [52, 57], [58]] 12 [(48, 4), (49, 281474976710656), (50, 32), (51, 1688849860263936), (52, 2251799813685248), (53, 8), (54, 9007199254740992), (55, 32), (56, 54043195528445952), (57, 72057594037927936), (58, 148618787703226368), (59, 288230376151711744)] mixed (by kernel_rfl) rfl rfl)
      | ((first | apply U_ | (apply Ug_; exact rfl; exact rfl) | (apply Ugq_; exact rfl; exact rfl) | apply Lex.u | (apply Lex.g; exact rfl; exact rfl) | (apply Lex.gq; exact rfl; exact rfl)); (first
    | exact QX.Move TYok
    | exact QX.Asg TYok
    | exact QX.Fld TYok
    | exact QX.Ld TYok
    | exact QX.Bin TYok
    | exact QX.Pick TYok
    | exact QX.Un TYok
    | exact QX.Len TYok
    | exact QX.Idx TYok); exact rfl)
      | refine SX.Box TYok (h := ?_)
      | (apply RG.gT; exact rfl; exact rfl; (first | assumption | decide))
      | (apply RG.gF; exact rfl; exact rfl; (first | assumption | decide | (rw [ne_eq, Bool.not_eq_true]; assumption) | (rw [ne_eq, Bool.not_eq_false]; assumption)); exact rfl)
      | (refine W.condA (ht := fun hb => ?_) (hf := fun hb => ?_) <;> (try simp at hb) <;> (try (exfalso; omega))))
    · exact Fin.ret ResL.auto
    all_goals (exfalso; exact hc ⟨⟨hb.1.1.1.1, hb.1.1.1.2, hb.1.1.2, hb.1.2⟩, by omega⟩)
  obtain ⟨⟨c1, c2, c3, c4⟩, hlen⟩ := hc
  have e1 : (decide (op = op') && decide (n = n') && decide (u = u') && decide (s = s') && eqL sameF l l') = eqL sameF l l' := by
    rw [decide_eq_true c1, decide_eq_true c2, decide_eq_true c3, decide_eq_true c4]; rfl
  rw [e1]
  subst c1 c2 c3 c4
  refine ACalls.of_W (qs := [cB (eqL sameF l l')]) [4] 60 Try.func49 (by kernel_rfl) rfl rfl rfl fun G => ?_
  refine W.initA (hw := ?_)
  repeat' (first
    | apply RG.nil
    | apply Lex.nil
    | apply Then.n
    | apply Then.r
    | apply Then.x
    | apply InBlock.n
    | apply InBlock.r
    | apply InBlock.hit
    | (apply InBlock.miss; exact rfl)
    | apply W.seq
    | apply W.region
    | apply W.block
    | apply W.skip
    | apply W.ret
    | apply W.exit
    | (apply W.draw2 (id := 6) [0, 1, 0, 7, 15, 0, 32, 0, 224, 480, 1023, 2047] [[2], [48], [5], [49, 50], [51], [3], [53], [5], [54, 55], [56], [52, 57], [58]] 12 [(48, 4), (49, 281474976710656), (50, 32), (51, 1688849860263936), (52, 2251799813685248), (53, 8), (54, 9007199254740992), (55, 32), (56, 54043195528445952), (57, 72057594037927936), (58, 148618787703226368), (59, 288230376151711744)] mixed (by kernel_rfl) rfl rfl)
    | ((first | apply U_ | (apply Ug_; exact rfl; exact rfl) | (apply Ugq_; exact rfl; exact rfl) | apply Lex.u | (apply Lex.g; exact rfl; exact rfl) | (apply Lex.gq; exact rfl; exact rfl)); (first
    | exact QX.Move TYok
    | exact QX.Asg TYok
    | exact QX.Fld TYok
    | exact QX.Ld TYok
    | exact QX.Bin TYok
    | exact QX.Pick TYok
    | exact QX.Un TYok
    | exact QX.Len TYok
    | exact QX.Idx TYok); exact rfl)
    | refine SX.Box TYok (h := ?_)
    | (apply RG.gT; exact rfl; exact rfl; (first | assumption | decide))
    | (apply RG.gF; exact rfl; exact rfl; (first | assumption | decide | (rw [ne_eq, Bool.not_eq_true]; assumption) | (rw [ne_eq, Bool.not_eq_false]; assumption)); exact rfl)
    | (refine W.condA (ht := fun hb => ?_) (hf := fun hb => ?_) <;> (try simp at hb) <;> (try (exfalso; omega))))
  apply W.loopP (σ := Nat) 60 [2, 3] (fun k => k ≤ l.length ∧ (∀ j, j < k → sameF (nth l j) (nth l' j) = true)) (fun k => [(5, vI k)]) (fun _ => [(2, ⟨35, 5, [[.int .i64 op, .int .i64 n, .int .i64 u, .str s, .sl (l.map encX)]]⟩), (3, ⟨35, 5, [[.int .i64 op, .int .i64 n, .int .i64 u, .str s, .sl (l'.map encX)]]⟩)]) (fun k => l.length - k) (0)
  case hp => repeat (first | exact Pick.nil | apply Pick.cons rfl)
  case h0 =>
    refine ⟨⟨by simp, fun j hj => absurd hj (by omega)⟩, ?_⟩
    exact Le.auto
  case round =>
    rintro k ⟨h1, h2⟩
    apply W.norm (by repeat (first | exact App.nil | apply App.cons))
    by_cases hk : k < l.length
    · have q := ih (nth l k) (nth_mem hk) (h _ (nth_mem hk)) (nth l' k) (h' _ (nth_mem (by omega)))
      cases hc : sameF (nth l k) (nth l' k) with
      | true =>
        rw [hc] at q
        repeat' (first
          | apply RG.nil
          | apply Lex.nil
          | apply Then.n
          | apply Then.r
          | apply Then.x
          | apply InBlock.n
          | apply InBlock.r
          | apply InBlock.hit
          | (apply InBlock.miss; exact rfl)
          | apply W.seq
          | apply W.region
          | apply W.block
          | apply W.skip
          | apply W.ret
          | apply W.exit
          | (apply W.draw2 (id := 6) [0, 1, 0, 7, 15, 0, 32, 0, 224, 480, 1023, 2047] [[2], [48], [5], [49, 50], [51], [3], [53], [5], [54, 55], [56], [52, 57], [58]] 12 [(48, 4), (49, 281474976710656), (50, 32), (51, 1688849860263936), (52, 2251799813685248), (53, 8), (54, 9007199254740992), (55, 32), (56, 54043195528445952), (57, 72057594037927936), (58, 148618787703226368), (59, 288230376151711744)] mixed (by kernel_rfl) rfl rfl)
          | ((first | apply U_ | (apply Ug_; exact rfl; exact rfl) | (apply Ugq_; exact rfl; exact rfl) | apply Lex.u | (apply Lex.g; exact rfl; exact rfl) | (apply Lex.gq; exact rfl; exact rfl)); (first
    | exact QX.Move TYok
    | exact QX.Asg TYok
    | exact QX.Fld TYok
    | exact QX.Ld TYok
    | exact QX.Bin TYok
    | exact QX.Pick TYok
    | exact QX.Un TYok
    | exact QX.Len TYok
    | exact QX.Idx TYok
    | (apply Q_calld (q); exact EvD.auto)); exact rfl)
          | refine SX.Box TYok (h := ?_)
          | (apply RG.gT; exact rfl; exact rfl; (first | assumption | decide))
          | (apply RG.gF; exact rfl; exact rfl; (first | assumption | decide | (rw [ne_eq, Bool.not_eq_true]; assumption) | (rw [ne_eq, Bool.not_eq_false]; assumption)); exact rfl)
          | (refine W.condA (ht := fun hb => ?_) (hf := fun hb => ?_) <;> (try simp at hb) <;> (try (exfalso; omega))))
        refine ⟨k + 1, ⟨by omega, upto_succ (q := fun j => sameF (nth l j) (nth l' j)) h2 hc⟩, ?_, ?_⟩
        · exact Le.auto
        · (try simp only); omega
      | false =>
        rw [hc] at q
        rw [eqL_false hk hc]
        repeat' (first
          | apply RG.nil
          | apply Lex.nil
          | apply Then.n
          | apply Then.r
          | apply Then.x
          | apply InBlock.n
          | apply InBlock.r
          | apply InBlock.hit
          | (apply InBlock.miss; exact rfl)
          | apply W.seq
          | apply W.region
          | apply W.block
          | apply W.skip
          | apply W.ret
          | apply W.exit
          | (apply W.draw2 (id := 6) [0, 1, 0, 7, 15, 0, 32, 0, 224, 480, 1023, 2047] [[2], [48], [5], [49, 50], [51], [3], [53], [5], [54, 55], [56], [52, 57], [58]] 12 [(48, 4), (49, 281474976710656), (50, 32), (51, 1688849860263936), (52, 2251799813685248), (53, 8), (54, 9007199254740992), (55, 32), (56, 54043195528445952), (57, 72057594037927936), (58, 148618787703226368), (59, 288230376151711744)] mixed (by kernel_rfl) rfl rfl)
          | ((first | apply U_ | (apply Ug_; exact rfl; exact rfl) | (apply Ugq_; exact rfl; exact rfl) | apply Lex.u | (apply Lex.g; exact rfl; exact rfl) | (apply Lex.gq; exact rfl; exact rfl)); (first
    | exact QX.Move TYok
    | exact QX.Asg TYok
    | exact QX.Fld TYok
    | exact QX.Ld TYok
    | exact QX.Bin TYok
    | exact QX.Pick TYok
    | exact QX.Un TYok
    | exact QX.Len TYok
    | exact QX.Idx TYok
    | (apply Q_calld (q); exact EvD.auto)); exact rfl)
          | refine SX.Box TYok (h := ?_)
          | (apply RG.gT; exact rfl; exact rfl; (first | assumption | decide))
          | (apply RG.gF; exact rfl; exact rfl; (first | assumption | decide | (rw [ne_eq, Bool.not_eq_true]; assumption) | (rw [ne_eq, Bool.not_eq_false]; assumption)); exact rfl)
          | (refine W.condA (ht := fun hb => ?_) (hf := fun hb => ?_) <;> (try simp at hb) <;> (try (exfalso; omega))))
        exact Fin.ret ResL.auto
    · obtain rfl : k = l.length := by omega
      rw [eqL_true hlen h2]
      repeat' (first
        | apply RG.nil
        | apply Lex.nil
        | apply Then.n
        | apply Then.r
        | apply Then.x
        | apply InBlock.n
        | apply InBlock.r
        | apply InBlock.hit
        | (apply InBlock.miss; exact rfl)
        | apply W.seq
        | apply W.region
        | apply W.block
        | apply W.skip
        | apply W.ret
        | apply W.exit
        | (apply W.draw2 (id := 6) [0, 1, 0, 7, 15, 0, 32, 0, 224, 480, 1023, 2047] [[2], [48], [5], [49, 50], [51], [3], [53], [5], [54, 55], [56], [52, 57], [58]] 12 [(48, 4), (49, 281474976710656), (50, 32), (51, 1688849860263936), (52, 2251799813685248), (53, 8), (54, 9007199254740992), (55, 32), (56, 54043195528445952), (57, 72057594037927936), (58, 148618787703226368), (59, 288230376151711744)] mixed (by kernel_rfl) rfl rfl)
        | ((first | apply U_ | (apply Ug_; exact rfl; exact rfl) | (apply Ugq_; exact rfl; exact rfl) | apply Lex.u | (apply Lex.g; exact rfl; exact rfl) | (apply Lex.gq; exact rfl; exact rfl)); (first
    | exact QX.Move TYok
    | exact QX.Asg TYok
    | exact QX.Fld TYok
    | exact QX.Ld TYok
    | exact QX.Bin TYok
    | exact QX.Pick TYok
    | exact QX.Un TYok
    | exact QX.Len TYok
    | exact QX.Idx TYok); exact rfl)
        | refine SX.Box TYok (h := ?_)
        | (apply RG.gT; exact rfl; exact rfl; (first | assumption | decide))
        | (apply RG.gF; exact rfl; exact rfl; (first | assumption | decide | (rw [ne_eq, Bool.not_eq_true]; assumption) | (rw [ne_eq, Bool.not_eq_false]; assumption)); exact rfl)
        | (refine W.condA (ht := fun hb => ?_) (hf := fun hb => ?_) <;> (try simp at hb) <;> (try (exfalso; omega))))
      exact Fin.ret ResL.auto
theorem rlets_ok (a b : List Let) (ha : a.length ≤ 9223372036854775807) (hx : ∀ y ∈ a, OkE y.body) (hy : ∀ y ∈ b, OkE y.body) : ACalls Try.prog 66 [slL a, slL b] (.pv (cB (eqL letF a b))) := by
  by_cases hlen : a.length = b.length
  case neg =>
    rw [eqL_nlen hlen]
    refine ACalls.of_W (qs := [cB false]) [4] 42 Try.func66 (by kernel_rfl) rfl rfl rfl fun G => ?_
    refine W.initA (hw := ?_)
    repeat' (first
      | apply RG.nil
      | apply Lex.nil
      | apply Then.n
      | apply Then.r
      | apply Then.x
      | apply InBlock.n
      | apply InBlock.r
      | apply InBlock.hit
      | (apply InBlock.miss; exact rfl)
      | apply W.seq
      | apply W.region
      | apply W.block
      | apply W.skip
      | apply W.ret
      | apply W.exit
      | (apply W.draw2 (id := 6) [0, 0, 3, 7, 15, 0, 0, 96, 224, 480, 1023, 2047, 4095, 4095, 16383, 32767, 65535, 4095, 4095, 397311, 921599, 1970175, 4194303, 8388607, 16777215] [[0], [5], [17, 18], [19], [20], [1], [5], [22, 23], [24], [25], [21, 26], [27], [0, 28], [5, 28], [29, 30, 28], [31, 28], [32, 28], [1, 28], [5, 28], [34, 35, 28], [36, 28], [37, 28], [33, 38, 28], [39, 28], [28, 40]] 25 [(17, 1), (18, 32), (19, 393216), (20, 524288), (21, 1048576), (22, 2), (23, 32), (24, 12582912), (25, 16777216), (26, 33554432), (27, 69206016), (28, 134217728), (29, 268435457), (30, 268435488), (31, 1879048192), (32, 2415919104), (33, 4563402752), (34, 268435458), (35, 268435488), (36, 51808043008), (37, 68987912192), (38, 137707388928), (39, 283736276992), (40, 550024249344), (41, 1099780063232)] mixed (by kernel_rfl) rfl rfl)
      | ((first | apply U_ | (apply Ug_; exact rfl; exact rfl) | (apply Ugq_; exact rfl; exact rfl) | apply Lex.u | (apply Lex.g; exact rfl; exact rfl) | (apply Lex.gq; exact rfl; exact rfl)); (first
    | exact QX.Move TYok
    | exact QX.Asg TYok
    | exact QX.Fld TYok
    | exact QX.Ld TYok
    | exact QX.Bin TYok
    | exact QX.Pick TYok
    | exact QX.Un TYok
    | exact QX.Len TYok
    | exact QX.Idx TYok); exact rfl)
      | (apply RG.gT; exact rfl; exact rfl; (first | assumption | decide))
      | (apply RG.gF; exact rfl; exact rfl; (first | assumption | decide | (rw [ne_eq, Bool.not_eq_true]; assumption) | (rw [ne_eq, Bool.not_eq_false]; assumption)); exact rfl)
      | (refine W.condA (ht := fun hb => ?_) (hf := fun hb => ?_) <;> (try simp at hb) <;> (try (exfalso; omega))))
    exact Fin.ret ResL.auto
  refine ACalls.of_W (qs := [cB (eqL letF a b)]) [4] 42 Try.func66 (by kernel_rfl) rfl rfl rfl fun G => ?_
  refine W.initA (hw := ?_)
  repeat' (first
    | apply RG.nil
    | apply Lex.nil
    | apply Then.n
    | apply Then.r
    | apply Then.x
    | apply InBlock.n
    | apply InBlock.r
    | apply InBlock.hit
    | (apply InBlock.miss; exact rfl)
    | apply W.seq
    | apply W.region
    | apply W.block
    | apply W.skip
    | apply W.ret
    | apply W.exit
    | (apply W.draw2 (id := 6) [0, 0, 3, 7, 15, 0, 0, 96, 224, 480, 1023, 2047, 4095, 4095, 16383, 32767, 65535, 4095, 4095, 397311, 921599, 1970175, 4194303, 8388607, 16777215] [[0], [5], [17, 18], [19], [20], [1], [5], [22, 23], [24], [25], [21, 26], [27], [0, 28], [5, 28], [29, 30, 28], [31, 28], [32, 28], [1, 28], [5, 28], [34, 35, 28], [36, 28], [37, 28], [33, 38, 28], [39, 28], [28, 40]] 25 [(17, 1), (18, 32), (19, 393216), (20, 524288), (21, 1048576), (22, 2), (23, 32), (24, 12582912), (25, 16777216), (26, 33554432), (27, 69206016), (28, 134217728), (29, 268435457), (30, 268435488), (31, 1879048192), (32, 2415919104), (33, 4563402752), (34, 268435458), (35, 268435488), (36, 51808043008), (37, 68987912192), (38, 137707388928), (39, 283736276992), (40, 550024249344), (41, 1099780063232)] mixed (by kernel_rfl) rfl rfl)
    | ((first | apply U_ | (apply Ug_; exact rfl; exact rfl) | (apply Ugq_; exact rfl; exact rfl) | apply Lex.u | (apply Lex.g; exact rfl; exact rfl) | (apply Lex.gq; exact rfl; exact rfl)); (first
    | exact QX.Move TYok
    | exact QX.Asg TYok
    | exact QX.Fld TYok
    | exact QX.Ld TYok
    | exact QX.Bin TYok
    | exact QX.Pick TYok
    | exact QX.Un TYok
    | exact QX.Len TYok
    | exact QX.Idx TYok); exact rfl)
    | (apply RG.gT; exact rfl; exact rfl; (first | assumption | decide))
    | (apply RG.gF; exact rfl; exact rfl; (first | assumption | decide | (rw [ne_eq, Bool.not_eq_true]; assumption) | (rw [ne_eq, Bool.not_eq_false]; assumption)); exact rfl)
    | (refine W.condA (ht := fun hb => ?_) (hf := fun hb => ?_) <;> (try simp at hb) <;> (try (exfalso; omega))))
  apply W.loopP (σ := Nat) 42 [0, 1] (fun k => k ≤ a.length ∧ (∀ j, j < k → letF (nth a j) (nth b j) = true)) (fun k => [(5, vI k)]) (fun _ => []) (fun k => a.length - k) (0)
  case hp => repeat (first | exact Pick.nil | apply Pick.cons rfl)
  case h0 =>
    refine ⟨⟨by simp, fun j hj => absurd hj (by omega)⟩, ?_⟩
    exact Le.auto
  case round =>
    rintro k ⟨h1, h2⟩
    apply W.norm (by repeat (first | exact App.nil | apply App.cons))
    by_cases hk : k < a.length
    · have q := rsameE_ok (nth a k).body (hx _ (nth_mem hk)) (nth b k).body (hy _ (nth_mem (by omega)))
      cases hc : letF (nth a k) (nth b k) with
      | true =>
        have hd := hc
        unfold letF at hd
        rw [Bool.and_eq_true, decide_eq_true_iff] at hd
        rw [hd.2] at q
        have hd1 := hd.1
        repeat' (first
          | apply RG.nil
          | apply Lex.nil
          | apply Then.n
          | apply Then.r
          | apply Then.x
          | apply InBlock.n
          | apply InBlock.r
          | apply InBlock.hit
          | (apply InBlock.miss; exact rfl)
          | apply W.seq
          | apply W.region
          | apply W.block
          | apply W.skip
          | apply W.ret
          | apply W.exit
          | (apply W.draw2 (id := 6) [0, 0, 3, 7, 15, 0, 0, 96, 224, 480, 1023, 2047, 4095, 4095, 16383, 32767, 65535, 4095, 4095, 397311, 921599, 1970175, 4194303, 8388607, 16777215] [[0], [5], [17, 18], [19], [20], [1], [5], [22, 23], [24], [25], [21, 26], [27], [0, 28], [5, 28], [29, 30, 28], [31, 28], [32, 28], [1, 28], [5, 28], [34, 35, 28], [36, 28], [37, 28], [33, 38, 28], [39, 28], [28, 40]] 25 [(17, 1), (18, 32), (19, 393216), (20, 524288), (21, 1048576), (22, 2), (23, 32), (24, 12582912), (25, 16777216), (26, 33554432), (27, 69206016), (28, 134217728), (29, 268435457), (30, 268435488), (31, 1879048192), (32, 2415919104), (33, 4563402752), (34, 268435458), (35, 268435488), (36, 51808043008), (37, 68987912192), (38, 137707388928), (39, 283736276992), (40, 550024249344), (41, 1099780063232)] mixed (by kernel_rfl) rfl rfl)
          | ((first | apply U_ | (apply Ug_; exact rfl; exact rfl) | (apply Ugq_; exact rfl; exact rfl) | apply Lex.u | (apply Lex.g; exact rfl; exact rfl) | (apply Lex.gq; exact rfl; exact rfl)); (first
    | exact QX.Move TYok
    | exact QX.Asg TYok
    | exact QX.Fld TYok
    | exact QX.Ld TYok
    | exact QX.Bin TYok
    | exact QX.Pick TYok
    | exact QX.Un TYok
    | exact QX.Len TYok
    | exact QX.Idx TYok
    | (apply Q_calld (q); exact EvD.auto)); exact rfl)
          | (apply RG.gT; exact rfl; exact rfl; (first | assumption | decide))
          | (apply RG.gF; exact rfl; exact rfl; (first | assumption | decide | (rw [ne_eq, Bool.not_eq_true]; assumption) | (rw [ne_eq, Bool.not_eq_false]; assumption)); exact rfl)
          | (refine W.condA (ht := fun hb => ?_) (hf := fun hb => ?_) <;> (try simp at hb) <;> (try (exfalso; omega))))
        · exact absurd hd1 hb
        refine ⟨k + 1, ⟨by omega, upto_succ (q := fun j => letF (nth a j) (nth b j)) h2 hc⟩, ?_, ?_⟩
        · exact Le.auto
        · (try simp only); omega
      | false =>
        have hd := hc
        unfold letF at hd
        rw [eqL_false hk hc]
        repeat' (first
          | apply RG.nil
          | apply Lex.nil
          | apply Then.n
          | apply Then.r
          | apply Then.x
          | apply InBlock.n
          | apply InBlock.r
          | apply InBlock.hit
          | (apply InBlock.miss; exact rfl)
          | apply W.seq
          | apply W.region
          | apply W.block
          | apply W.skip
          | apply W.ret
          | apply W.exit
          | (apply W.draw2 (id := 6) [0, 0, 3, 7, 15, 0, 0, 96, 224, 480, 1023, 2047, 4095, 4095, 16383, 32767, 65535, 4095, 4095, 397311, 921599, 1970175, 4194303, 8388607, 16777215] [[0], [5], [17, 18], [19], [20], [1], [5], [22, 23], [24], [25], [21, 26], [27], [0, 28], [5, 28], [29, 30, 28], [31, 28], [32, 28], [1, 28], [5, 28], [34, 35, 28], [36, 28], [37, 28], [33, 38, 28], [39, 28], [28, 40]] 25 [(17, 1), (18, 32), (19, 393216), (20, 524288), (21, 1048576), (22, 2), (23, 32), (24, 12582912), (25, 16777216), (26, 33554432), (27, 69206016), (28, 134217728), (29, 268435457), (30, 268435488), (31, 1879048192), (32, 2415919104), (33, 4563402752), (34, 268435458), (35, 268435488), (36, 51808043008), (37, 68987912192), (38, 137707388928), (39, 283736276992), (40, 550024249344), (41, 1099780063232)] mixed (by kernel_rfl) rfl rfl)
          | ((first | apply U_ | (apply Ug_; exact rfl; exact rfl) | (apply Ugq_; exact rfl; exact rfl) | apply Lex.u | (apply Lex.g; exact rfl; exact rfl) | (apply Lex.gq; exact rfl; exact rfl)); (first
    | exact QX.Move TYok
    | exact QX.Asg TYok
    | exact QX.Fld TYok
    | exact QX.Ld TYok
    | exact QX.Bin TYok
    | exact QX.Pick TYok
    | exact QX.Un TYok
    | exact QX.Len TYok
    | exact QX.Idx TYok
    | (apply Q_calld (q); exact EvD.auto)); exact rfl)
          | (apply RG.gT; exact rfl; exact rfl; (first | assumption | decide))
          | (apply RG.gF; exact rfl; exact rfl; (first | assumption | decide | (rw [ne_eq, Bool.not_eq_true]; assumption) | (rw [ne_eq, Bool.not_eq_false]; assumption)); exact rfl)
          | (refine W.condA (ht := fun hb => ?_) (hf := fun hb => ?_) <;> (try simp at hb) <;> (try (exfalso; omega))))
        · exact Fin.ret ResL.auto
        all_goals (exfalso; simp_all; done)
    · obtain rfl : k = a.length := by omega
      rw [eqL_true hlen h2]
      repeat' (first
        | apply RG.nil
        | apply Lex.nil
        | apply Then.n
        | apply Then.r
        | apply Then.x
        | apply InBlock.n
        | apply InBlock.r
        | apply InBlock.hit
        | (apply InBlock.miss; exact rfl)
        | apply W.seq
        | apply W.region
        | apply W.block
        | apply W.skip
        | apply W.ret
        | apply W.exit
        | (apply W.draw2 (id := 6) [0, 0, 3, 7, 15, 0, 0, 96, 224, 480, 1023, 2047, 4095, 4095, 16383, 32767, 65535, 4095, 4095, 397311, 921599, 1970175, 4194303, 8388607, 16777215] [[0], [5], [17, 18], [19], [20], [1], [5], [22, 23], [24], [25], [21, 26], [27], [0, 28], [5, 28], [29, 30, 28], [31, 28], [32, 28], [1, 28], [5, 28], [34, 35, 28], [36, 28], [37, 28], [33, 38, 28], [39, 28], [28, 40]] 25 [(17, 1), (18, 32), (19, 393216), (20, 524288), (21, 1048576), (22, 2), (23, 32), (24, 12582912), (25, 16777216), (26, 33554432), (27, 69206016), (28, 134217728), (29, 268435457), (30, 268435488), (31, 1879048192), (32, 2415919104), (33, 4563402752), (34, 268435458), (35, 268435488), (36, 51808043008), (37, 68987912192), (38, 137707388928), (39, 283736276992), (40, 550024249344), (41, 1099780063232)] mixed (by kernel_rfl) rfl rfl)
        | ((first | apply U_ | (apply Ug_; exact rfl; exact rfl) | (apply Ugq_; exact rfl; exact rfl) | apply Lex.u | (apply Lex.g; exact rfl; exact rfl) | (apply Lex.gq; exact rfl; exact rfl)); (first
    | exact QX.Move TYok
    | exact QX.Asg TYok
    | exact QX.Fld TYok
    | exact QX.Ld TYok
    | exact QX.Bin TYok
    | exact QX.Pick TYok
    | exact QX.Un TYok
    | exact QX.Len TYok
    | exact QX.Idx TYok); exact rfl)
        | (apply RG.gT; exact rfl; exact rfl; (first | assumption | decide))
        | (apply RG.gF; exact rfl; exact rfl; (first | assumption | decide | (rw [ne_eq, Bool.not_eq_true]; assumption) | (rw [ne_eq, Bool.not_eq_false]; assumption)); exact rfl)
        | (refine W.condA (ht := fun hb => ?_) (hf := fun hb => ?_) <;> (try simp at hb) <;> (try (exfalso; omega))))
      exact Fin.ret ResL.auto

def termF (a b : Ind) : Bool := eqL letF a.lets b.lets && sameF a.coupon b.coupon && decide (a.cap = b.cap)
def FACE : Str := [102, 97, 99, 101]
def FROM : Str := [102, 114, 111, 109]
def TO : Str := [116, 111]
def COUPON : Str := [99, 111, 117, 112, 111, 110]
def RANK : Str := [114, 97, 110, 107]
def MAJ : Str := [109, 97, 106, 111, 114, 105, 116, 121]
def resT (a b : Ind) : List (Str × Bool) := [(FACE, decide (a.face = b.face)), (FROM, decide (a.start = b.start)), (TO, decide (a.due = b.due)), (COUPON, termF a b), (RANK, decide (a.rank = b.rank)), (MAJ, decide (a.majority = b.majority))]
def resOut (l : List (Str × Bool)) : List Str := (l.filter fun t => !t.2).map (·.1)
def resL (a b : Ind) : List Str := resOut (resT a b)
def encT (t : Str × Bool) : List Cell := [.str t.1, .bool t.2]
theorem resOut_append (l m : List (Str × Bool)) : resOut (l ++ m) = resOut l ++ resOut m := by simp [resOut]
theorem resOut_take {l : List (Str × Bool)} {k : Nat} (h : k < l.length) : resOut (l.take (k + 1)) = resOut (l.take k) ++ (if (nth l k).2 = true then [] else [(nth l k).1]) := by
  rw [take_nth h, resOut_append]
  congr 1
  cases hb : (nth l k).2 <;> simp [resOut, hb]
theorem resOut_len (l : List (Str × Bool)) : (resOut l).length ≤ l.length := by
  unfold resOut; rw [List.length_map]; exact List.length_filter_le ..
theorem diffRes_ok (a b : Ind) (ha : OkN a) (hb : OkN b) : ACalls Try.prog 17 [aN a, aN b] (.pv (slS (resL a b))) := by
  have h1 := eqfL_ok a.lets b.lets 30 [] letF ha.lets (fun x hx y hy => letEq_ok x y (ha.lete x hx) (hb.lete y hy))
  have h2 := sameE_ok a.coupon ha.coupon b.coupon hb.coupon
  have hT : (resT a b).length = 6 := rfl
  refine ACalls.of_W (qs := [slS (resL a b)]) [4] 76 Try.func17 (by kernel_rfl) rfl rfl rfl fun G => ?_
  refine W.initA (hw := ?_)
  repeat' (first
    | apply RG.nil
    | apply Lex.nil
    | apply Then.n
    | apply Then.r
    | apply Then.x
    | apply InBlock.n
    | apply InBlock.r
    | apply InBlock.hit
    | (apply InBlock.miss; exact rfl)
    | apply W.seq
    | apply W.region
    | apply W.block
    | apply W.skip
    | apply W.ret
    | apply W.exit
    | ((first | apply U_ | (apply Ug_; exact rfl; exact rfl) | (apply Ugq_; exact rfl; exact rfl) | apply Lex.u | (apply Lex.g; exact rfl; exact rfl) | (apply Lex.gq; exact rfl; exact rfl)); (first
    | exact QX.Move TYok
    | exact QX.Asg TYok
    | exact QX.Fld TYok
    | exact QX.Ld TYok
    | exact QX.Bin TYok
    | exact QX.Pick TYok
    | exact QX.Un TYok
    | exact QX.Len TYok
    | exact QX.Idx TYok
    | exact QX.Build TYok
    | (apply Q_call (h1); exact EvL.auto; exact rfl)
    | (apply Q_calld (h2); exact EvD.auto)); exact rfl)
    | refine SX.Alloc TYok (h := ?_)
    | refine SX.Store TYok (h := ?_)
    | refine SX.Lit TYok (h := ?_)
    | refine SX.App TYok (h := ?_)
    | refine SX.Box TYok (h := ?_)
    | (apply S_isnil TYok; exact rfl; exact rfl; exact rfl; exact Ev.auto; intro bn hnil)
    | (apply RG.gT; exact rfl; exact rfl; (first | assumption | decide))
    | (apply RG.gF; exact rfl; exact rfl; (first | assumption | decide | (rw [ne_eq, Bool.not_eq_true]; assumption) | (rw [ne_eq, Bool.not_eq_false]; assumption)); exact rfl)
    | (refine W.condA (ht := fun hb => ?_) (hf := fun hb => ?_) <;> (try simp at hb) <;> (try (exfalso; omega))))
  apply cutK (σ := Unit) 76 [6] (fun _ => True) (fun _ => [(60, (True, .slc 60)), (61, vI 6), (62, vI 0)]) (fun _ => [(60, ⟨64, 2, (resT a b).map encT⟩)])
  case hp => repeat (first | exact Pick.nil | apply Pick.cons rfl)
  case hx =>
    repeat' (first
      | apply RG.nil
      | apply Lex.nil
      | apply Then.n
      | apply Then.r
      | apply Then.x
      | apply InBlock.n
      | apply InBlock.r
      | apply InBlock.hit
      | (apply InBlock.miss; exact rfl)
      | apply W.seq
      | apply W.region
      | apply W.block
      | apply W.skip
      | apply W.ret
      | apply W.exit
      | (refine W.drawU (id := 3) [0, 1, 0, 4, 15, 31, 0, 64, 0, 256, 960, 1984, 0, 4096, 0, 16384, 61440, 126976, 0, 262144, 786432, 1835008, 786432, 4980736, 16515072, 33292288, 66846720, 133955584, 268173312, 133955584, 670826496, 2147221504, 4294705152, 8589672448, 0, 17179869184, 0, 68719476736, 257698037760, 532575944704, 0, 1099511627776, 0, 4398046511104, 16492674416640, 34084860461056, 70368744177663, 140737488355327, 0] [[2], [14], [3], [16], [15, 17], [18], [2], [20], [3], [22], [21, 23], [24], [2], [26], [3], [28], [27, 29], [30], [5], [32], [2, 33], [34, 33], [3, 33], [36, 33], [35, 37, 33], [33, 38], [39], [2, 40], [41, 40], [3, 40], [43, 40], [42, 44, 40], [40, 45], [46], [2], [48], [3], [50], [49, 51], [52], [2], [54], [3], [56], [55, 57], [58]] 46 48 62 (.pv (.one (.int .i64 0))) [(14, 4), (15, 16384), (16, 8), (17, 65536), (18, 163840), (19, 262144), (20, 4), (21, 1048576), (22, 8), (23, 4194304), (24, 10485760), (25, 16777216), (26, 4), (27, 67108864), (28, 8), (29, 268435456), (30, 671088640), (31, 1073741824), (32, 32), (33, 4294967296), (34, 8589934596), (35, 25769803776), (36, 8589934600), (37, 77309411328), (38, 180388626432), (39, 283467841536), (40, 549755813888), (41, 1099511627780), (42, 3298534883328), (43, 1099511627784), (44, 9895604649984), (45, 23089744183296), (46, 36283883716608), (47, 70368744177664), (48, 4), (49, 281474976710656), (50, 8), (51, 1125899906842624), (52, 2814749767106560), (53, 4503599627370496), (54, 4), (55, 18014398509481984), (56, 8), (57, 72057594037927936), (58, 180143985094819840), (59, 288230376151711744)] 3 2 [true, true, true, true, true, true, true, true, true, true, true, true, true, true, true, true, true, true, true, true, true, true, true, true, true, true, true, true, true, true, true, true, true, true, true, true, true, true, true, true, true, true, true, true, true, true, false, false, false] [true, true, true, true, true, true, true, true, true, true, true, true, true, true, true, true, true, true, true, true, true, true, true, true, true, true, true, true, true, true, true, true, true, true, true, true, true, true, true, true, true, true, true, true, true, true, false, false, true] mixed (by kernel_rfl) rfl rfl rfl rfl rfl rfl rfl rfl (fun o ho => by cases ho; exact QX.Move TYok) ?_)
      | apply RA2.mk
      | exact RAll.nil
      | (refine RAll.cons rfl ?_ ?_)
      | (refine RA.step (L := [true, true, true, true, true, true, true, true, true, true, true, true, true, true, true, true, true, true, true, true, true, true, true, true, true, true, true, true, true, true, true, true, true, true, true, true, true, true, true, true, true, true, true, true, true, true, false, false, true]) (i := 46) (is := []) (by kernel_rfl) ?_)
      | (refine RA.step (L := [true, true, true, true, true, true, true, true, true, true, true, true, true, true, true, true, true, true, true, true, true, true, true, true, true, true, true, true, true, true, true, true, true, true, true, true, true, true, true, true, true, true, true, true, true, true, true, false, true]) (i := 47) (is := []) (by kernel_rfl) ?_)
      | (refine RA.done (L := [true, true, true, true, true, true, true, true, true, true, true, true, true, true, true, true, true, true, true, true, true, true, true, true, true, true, true, true, true, true, true, true, true, true, true, true, true, true, true, true, true, true, true, true, true, true, true, true, true]) (by kernel_rfl) ?_)
      | (refine RA.step (L := [true, true, true, true, true, true, true, true, true, true, true, true, true, true, true, true, true, true, true, true, true, true, true, true, true, true, true, true, true, true, true, true, true, true, true, true, true, true, true, true, true, true, true, true, true, true, false, false, false]) (i := 46) (is := [48]) (by kernel_rfl) ?_)
      | (refine RA.step (L := [true, true, true, true, true, true, true, true, true, true, true, true, true, true, true, true, true, true, true, true, true, true, true, true, true, true, true, true, true, true, true, true, true, true, true, true, true, true, true, true, true, true, true, true, true, true, true, false, false]) (i := 47) (is := [48]) (by kernel_rfl) ?_)
      | (refine RA.step (L := [true, true, true, true, true, true, true, true, true, true, true, true, true, true, true, true, true, true, true, true, true, true, true, true, true, true, true, true, true, true, true, true, true, true, true, true, true, true, true, true, true, true, true, true, true, true, true, true, false]) (i := 48) (is := []) (by kernel_rfl) ?_)
      | ((first | apply U_ | (apply Ug_; exact rfl; exact rfl) | (apply Ugq_; exact rfl; exact rfl) | apply Lex.u | (apply Lex.g; exact rfl; exact rfl) | (apply Lex.gq; exact rfl; exact rfl)); (first
    | exact QX.Move TYok
    | exact QX.Asg TYok
    | exact QX.Fld TYok
    | exact QX.Ld TYok
    | exact QX.Bin TYok
    | exact QX.Pick TYok
    | exact QX.Un TYok
    | exact QX.Len TYok
    | exact QX.Idx TYok
    | exact QX.Build TYok
    | (apply Q_call (h1); exact EvL.auto; exact rfl)
    | (apply Q_calld (h2); exact EvD.auto)); exact rfl)
      | refine SX.Alloc TYok (h := ?_)
      | refine SX.Store TYok (h := ?_)
      | refine SX.Lit TYok (h := ?_)
      | refine SX.App TYok (h := ?_)
      | refine SX.Box TYok (h := ?_)
      | (apply S_isnil TYok; exact rfl; exact rfl; exact rfl; exact Ev.auto; intro bn hnil)
      | (apply RG.gT; exact rfl; exact rfl; (first | assumption | decide))
      | (apply RG.gF; exact rfl; exact rfl; (first | assumption | decide | (rw [ne_eq, Bool.not_eq_true]; assumption) | (rw [ne_eq, Bool.not_eq_false]; assumption)); exact rfl)
      | (refine W.condA (ht := fun hb => ?_) (hf := fun hb => ?_) <;> (try simp at hb) <;> (try (exfalso; omega))))
    all_goals
      refine ⟨(), trivial, ?_⟩
      exact Le.auto
  case hy =>
    rintro _ _
    apply W.norm (by repeat (first | exact App.nil | apply App.cons))
    repeat' (first
      | apply RG.nil
      | apply Lex.nil
      | apply Then.n
      | apply Then.r
      | apply Then.x
      | apply InBlock.n
      | apply InBlock.r
      | apply InBlock.hit
      | (apply InBlock.miss; exact rfl)
      | apply W.seq
      | apply W.region
      | apply W.block
      | apply W.skip
      | apply W.ret
      | apply W.exit
      | (refine W.drawU (id := 3) [0, 1, 0, 4, 15, 31, 0, 64, 0, 256, 960, 1984, 0, 4096, 0, 16384, 61440, 126976, 0, 262144, 786432, 1835008, 786432, 4980736, 16515072, 33292288, 66846720, 133955584, 268173312, 133955584, 670826496, 2147221504, 4294705152, 8589672448, 0, 17179869184, 0, 68719476736, 257698037760, 532575944704, 0, 1099511627776, 0, 4398046511104, 16492674416640, 34084860461056, 70368744177663, 140737488355327, 0] [[2], [14], [3], [16], [15, 17], [18], [2], [20], [3], [22], [21, 23], [24], [2], [26], [3], [28], [27, 29], [30], [5], [32], [2, 33], [34, 33], [3, 33], [36, 33], [35, 37, 33], [33, 38], [39], [2, 40], [41, 40], [3, 40], [43, 40], [42, 44, 40], [40, 45], [46], [2], [48], [3], [50], [49, 51], [52], [2], [54], [3], [56], [55, 57], [58]] 46 48 62 (.pv (.one (.int .i64 0))) [(14, 4), (15, 16384), (16, 8), (17, 65536), (18, 163840), (19, 262144), (20, 4), (21, 1048576), (22, 8), (23, 4194304), (24, 10485760), (25, 16777216), (26, 4), (27, 67108864), (28, 8), (29, 268435456), (30, 671088640), (31, 1073741824), (32, 32), (33, 4294967296), (34, 8589934596), (35, 25769803776), (36, 8589934600), (37, 77309411328), (38, 180388626432), (39, 283467841536), (40, 549755813888), (41, 1099511627780), (42, 3298534883328), (43, 1099511627784), (44, 9895604649984), (45, 23089744183296), (46, 36283883716608), (47, 70368744177664), (48, 4), (49, 281474976710656), (50, 8), (51, 1125899906842624), (52, 2814749767106560), (53, 4503599627370496), (54, 4), (55, 18014398509481984), (56, 8), (57, 72057594037927936), (58, 180143985094819840), (59, 288230376151711744)] 3 2 [true, true, true, true, true, true, true, true, true, true, true, true, true, true, true, true, true, true, true, true, true, true, true, true, true, true, true, true, true, true, true, true, true, true, true, true, true, true, true, true, true, true, true, true, true, true, false, false, false] [true, true, true, true, true, true, true, true, true, true, true, true, true, true, true, true, true, true, true, true, true, true, true, true, true, true, true, true, true, true, true, true, true, true, true, true, true, true, true, true, true, true, true, true, true, true, false, false, true] mixed (by kernel_rfl) rfl rfl rfl rfl rfl rfl rfl rfl (fun o ho => by cases ho; exact QX.Move TYok) ?_)
      | apply RA2.mk
      | exact RAll.nil
      | (refine RAll.cons rfl ?_ ?_)
      | (refine RA.step (L := [true, true, true, true, true, true, true, true, true, true, true, true, true, true, true, true, true, true, true, true, true, true, true, true, true, true, true, true, true, true, true, true, true, true, true, true, true, true, true, true, true, true, true, true, true, true, false, false, true]) (i := 46) (is := []) (by kernel_rfl) ?_)
      | (refine RA.step (L := [true, true, true, true, true, true, true, true, true, true, true, true, true, true, true, true, true, true, true, true, true, true, true, true, true, true, true, true, true, true, true, true, true, true, true, true, true, true, true, true, true, true, true, true, true, true, true, false, true]) (i := 47) (is := []) (by kernel_rfl) ?_)
      | (refine RA.done (L := [true, true, true, true, true, true, true, true, true, true, true, true, true, true, true, true, true, true, true, true, true, true, true, true, true, true, true, true, true, true, true, true, true, true, true, true, true, true, true, true, true, true, true, true, true, true, true, true, true]) (by kernel_rfl) ?_)
      | (refine RA.step (L := [true, true, true, true, true, true, true, true, true, true, true, true, true, true, true, true, true, true, true, true, true, true, true, true, true, true, true, true, true, true, true, true, true, true, true, true, true, true, true, true, true, true, true, true, true, true, false, false, false]) (i := 46) (is := [48]) (by kernel_rfl) ?_)
      | (refine RA.step (L := [true, true, true, true, true, true, true, true, true, true, true, true, true, true, true, true, true, true, true, true, true, true, true, true, true, true, true, true, true, true, true, true, true, true, true, true, true, true, true, true, true, true, true, true, true, true, true, false, false]) (i := 47) (is := [48]) (by kernel_rfl) ?_)
      | (refine RA.step (L := [true, true, true, true, true, true, true, true, true, true, true, true, true, true, true, true, true, true, true, true, true, true, true, true, true, true, true, true, true, true, true, true, true, true, true, true, true, true, true, true, true, true, true, true, true, true, true, true, false]) (i := 48) (is := []) (by kernel_rfl) ?_)
      | ((first | apply U_ | (apply Ug_; exact rfl; exact rfl) | (apply Ugq_; exact rfl; exact rfl) | apply Lex.u | (apply Lex.g; exact rfl; exact rfl) | (apply Lex.gq; exact rfl; exact rfl)); (first
    | exact QX.Move TYok
    | exact QX.Asg TYok
    | exact QX.Fld TYok
    | exact QX.Ld TYok
    | exact QX.Bin TYok
    | exact QX.Pick TYok
    | exact QX.Un TYok
    | exact QX.Len TYok
    | exact QX.Idx TYok
    | exact QX.Build TYok); exact rfl)
      | refine SX.Alloc TYok (h := ?_)
      | refine SX.Store TYok (h := ?_)
      | refine SX.Lit TYok (h := ?_)
      | refine SX.App TYok (h := ?_)
      | refine SX.Box TYok (h := ?_)
      | (apply S_isnil TYok; exact rfl; exact rfl; exact rfl; exact Ev.auto; intro bn hnil)
      | (apply RG.gT; exact rfl; exact rfl; (first | assumption | decide))
      | (apply RG.gF; exact rfl; exact rfl; (first | assumption | decide | (rw [ne_eq, Bool.not_eq_true]; assumption) | (rw [ne_eq, Bool.not_eq_false]; assumption)); exact rfl)
      | (refine W.condA (ht := fun hb => ?_) (hf := fun hb => ?_) <;> (try simp at hb) <;> (try (exfalso; omega))))
    refine W.weaken (Le.nilOwn (t := 6) (n := 73) (E := 9) (sz := 1) rfl) ?_
    apply W.loopP (σ := Nat) 76 [61] (fun k => k ≤ 6) (fun k => [(6, (True, .slc 73)), (60, (True, .slc 60)), (62, vI k)]) (fun k => [(60, ⟨64, 2, (resT a b).map encT⟩), (73, ⟨9, 1, (resOut ((resT a b).take k)).map encS⟩)]) (fun k => 6 - k) (0)
    case hp => repeat (first | exact Pick.nil | apply Pick.cons rfl)
    case h0 =>
      refine ⟨by omega, ?_⟩
      exact Le.auto
    case round =>
      rintro k hk1
      apply W.norm (by repeat (first | exact App.nil | apply App.cons))
      by_cases hk : k < 6
      · have hl : (resOut ((resT a b).take k)).length ≤ 6 := by
          have := resOut_len ((resT a b).take k)
          rw [List.length_take] at this; omega
        have ht := resOut_take (l := resT a b) (k := k) (by omega)
        repeat' (first
          | apply RG.nil
          | apply Lex.nil
          | apply Then.n
          | apply Then.r
          | apply Then.x
          | apply InBlock.n
          | apply InBlock.r
          | apply InBlock.hit
          | (apply InBlock.miss; exact rfl)
          | apply W.seq
          | apply W.region
          | apply W.block
          | apply W.skip
          | apply W.ret
          | apply W.exit
          | (refine W.drawU (id := 3) [0, 1, 0, 4, 15, 31, 0, 64, 0, 256, 960, 1984, 0, 4096, 0, 16384, 61440, 126976, 0, 262144, 786432, 1835008, 786432, 4980736, 16515072, 33292288, 66846720, 133955584, 268173312, 133955584, 670826496, 2147221504, 4294705152, 8589672448, 0, 17179869184, 0, 68719476736, 257698037760, 532575944704, 0, 1099511627776, 0, 4398046511104, 16492674416640, 34084860461056, 70368744177663, 140737488355327, 0] [[2], [14], [3], [16], [15, 17], [18], [2], [20], [3], [22], [21, 23], [24], [2], [26], [3], [28], [27, 29], [30], [5], [32], [2, 33], [34, 33], [3, 33], [36, 33], [35, 37, 33], [33, 38], [39], [2, 40], [41, 40], [3, 40], [43, 40], [42, 44, 40], [40, 45], [46], [2], [48], [3], [50], [49, 51], [52], [2], [54], [3], [56], [55, 57], [58]] 46 48 62 (.pv (.one (.int .i64 0))) [(14, 4), (15, 16384), (16, 8), (17, 65536), (18, 163840), (19, 262144), (20, 4), (21, 1048576), (22, 8), (23, 4194304), (24, 10485760), (25, 16777216), (26, 4), (27, 67108864), (28, 8), (29, 268435456), (30, 671088640), (31, 1073741824), (32, 32), (33, 4294967296), (34, 8589934596), (35, 25769803776), (36, 8589934600), (37, 77309411328), (38, 180388626432), (39, 283467841536), (40, 549755813888), (41, 1099511627780), (42, 3298534883328), (43, 1099511627784), (44, 9895604649984), (45, 23089744183296), (46, 36283883716608), (47, 70368744177664), (48, 4), (49, 281474976710656), (50, 8), (51, 1125899906842624), (52, 2814749767106560), (53, 4503599627370496), (54, 4), (55, 18014398509481984), (56, 8), (57, 72057594037927936), (58, 180143985094819840), (59, 288230376151711744)] 3 2 [true, true, true, true, true, true, true, true, true, true, true, true, true, true, true, true, true, true, true, true, true, true, true, true, true, true, true, true, true, true, true, true, true, true, true, true, true, true, true, true, true, true, true, true, true, true, false, false, false] [true, true, true, true, true, true, true, true, true, true, true, true, true, true, true, true, true, true, true, true, true, true, true, true, true, true, true, true, true, true, true, true, true, true, true, true, true, true, true, true, true, true, true, true, true, true, false, false, true] mixed (by kernel_rfl) rfl rfl rfl rfl rfl rfl rfl rfl (fun o ho => by cases ho; exact QX.Move TYok) ?_)
          | apply RA2.mk
          | exact RAll.nil
          | (refine RAll.cons rfl ?_ ?_)
          | (refine RA.step (L := [true, true, true, true, true, true, true, true, true, true, true, true, true, true, true, true, true, true, true, true, true, true, true, true, true, true, true, true, true, true, true, true, true, true, true, true, true, true, true, true, true, true, true, true, true, true, false, false, true]) (i := 46) (is := []) (by kernel_rfl) ?_)
          | (refine RA.step (L := [true, true, true, true, true, true, true, true, true, true, true, true, true, true, true, true, true, true, true, true, true, true, true, true, true, true, true, true, true, true, true, true, true, true, true, true, true, true, true, true, true, true, true, true, true, true, true, false, true]) (i := 47) (is := []) (by kernel_rfl) ?_)
          | (refine RA.done (L := [true, true, true, true, true, true, true, true, true, true, true, true, true, true, true, true, true, true, true, true, true, true, true, true, true, true, true, true, true, true, true, true, true, true, true, true, true, true, true, true, true, true, true, true, true, true, true, true, true]) (by kernel_rfl) ?_)
          | (refine RA.step (L := [true, true, true, true, true, true, true, true, true, true, true, true, true, true, true, true, true, true, true, true, true, true, true, true, true, true, true, true, true, true, true, true, true, true, true, true, true, true, true, true, true, true, true, true, true, true, false, false, false]) (i := 46) (is := [48]) (by kernel_rfl) ?_)
          | (refine RA.step (L := [true, true, true, true, true, true, true, true, true, true, true, true, true, true, true, true, true, true, true, true, true, true, true, true, true, true, true, true, true, true, true, true, true, true, true, true, true, true, true, true, true, true, true, true, true, true, true, false, false]) (i := 47) (is := [48]) (by kernel_rfl) ?_)
          | (refine RA.step (L := [true, true, true, true, true, true, true, true, true, true, true, true, true, true, true, true, true, true, true, true, true, true, true, true, true, true, true, true, true, true, true, true, true, true, true, true, true, true, true, true, true, true, true, true, true, true, true, true, false]) (i := 48) (is := []) (by kernel_rfl) ?_)
          | ((first | apply U_ | (apply Ug_; exact rfl; exact rfl) | (apply Ugq_; exact rfl; exact rfl) | apply Lex.u | (apply Lex.g; exact rfl; exact rfl) | (apply Lex.gq; exact rfl; exact rfl)); (first
    | exact QX.Move TYok
    | exact QX.Asg TYok
    | exact QX.Fld TYok
    | exact QX.Ld TYok
    | exact QX.Bin TYok
    | exact QX.Pick TYok
    | exact QX.Un TYok
    | exact QX.Len TYok
    | exact QX.Idx TYok
    | exact QX.Build TYok); exact rfl)
          | refine SX.Alloc TYok (h := ?_)
          | refine SX.Store TYok (h := ?_)
          | refine SX.Lit TYok (h := ?_)
          | refine SX.App TYok (h := ?_)
          | refine SX.Box TYok (h := ?_)
          | (apply S_isnil TYok; exact rfl; exact rfl; exact rfl; exact Ev.auto; intro bn hnil)
          | (apply RG.gT; exact rfl; exact rfl; (first | assumption | decide))
          | (apply RG.gF; exact rfl; exact rfl; (first | assumption | decide | (rw [ne_eq, Bool.not_eq_true]; assumption) | (rw [ne_eq, Bool.not_eq_false]; assumption)); exact rfl)
          | (refine W.condA (ht := fun hb => ?_) (hf := fun hb => ?_) <;> (try simp at hb) <;> (try (exfalso; omega))))
        · rw [if_neg (by rw [hb]; decide)] at ht
          refine ⟨k + 1, by omega, ?_, ?_⟩
          · simp only [ht, List.map_append, List.map_cons, List.map_nil]
            exact Le.auto
          · (try simp only); omega
        · rw [if_pos hb, List.append_nil] at ht
          refine ⟨k + 1, by omega, ?_, ?_⟩
          · simp only [ht]
            exact Le.auto
          · (try simp only); omega
      · obtain rfl : k = 6 := by omega
        have he : (resT a b).take 6 = resT a b := rfl
        simp only [he]
        repeat' (first
          | apply RG.nil
          | apply Lex.nil
          | apply Then.n
          | apply Then.r
          | apply Then.x
          | apply InBlock.n
          | apply InBlock.r
          | apply InBlock.hit
          | (apply InBlock.miss; exact rfl)
          | apply W.seq
          | apply W.region
          | apply W.block
          | apply W.skip
          | apply W.ret
          | apply W.exit
          | (refine W.drawU (id := 3) [0, 1, 0, 4, 15, 31, 0, 64, 0, 256, 960, 1984, 0, 4096, 0, 16384, 61440, 126976, 0, 262144, 786432, 1835008, 786432, 4980736, 16515072, 33292288, 66846720, 133955584, 268173312, 133955584, 670826496, 2147221504, 4294705152, 8589672448, 0, 17179869184, 0, 68719476736, 257698037760, 532575944704, 0, 1099511627776, 0, 4398046511104, 16492674416640, 34084860461056, 70368744177663, 140737488355327, 0] [[2], [14], [3], [16], [15, 17], [18], [2], [20], [3], [22], [21, 23], [24], [2], [26], [3], [28], [27, 29], [30], [5], [32], [2, 33], [34, 33], [3, 33], [36, 33], [35, 37, 33], [33, 38], [39], [2, 40], [41, 40], [3, 40], [43, 40], [42, 44, 40], [40, 45], [46], [2], [48], [3], [50], [49, 51], [52], [2], [54], [3], [56], [55, 57], [58]] 46 48 62 (.pv (.one (.int .i64 0))) [(14, 4), (15, 16384), (16, 8), (17, 65536), (18, 163840), (19, 262144), (20, 4), (21, 1048576), (22, 8), (23, 4194304), (24, 10485760), (25, 16777216), (26, 4), (27, 67108864), (28, 8), (29, 268435456), (30, 671088640), (31, 1073741824), (32, 32), (33, 4294967296), (34, 8589934596), (35, 25769803776), (36, 8589934600), (37, 77309411328), (38, 180388626432), (39, 283467841536), (40, 549755813888), (41, 1099511627780), (42, 3298534883328), (43, 1099511627784), (44, 9895604649984), (45, 23089744183296), (46, 36283883716608), (47, 70368744177664), (48, 4), (49, 281474976710656), (50, 8), (51, 1125899906842624), (52, 2814749767106560), (53, 4503599627370496), (54, 4), (55, 18014398509481984), (56, 8), (57, 72057594037927936), (58, 180143985094819840), (59, 288230376151711744)] 3 2 [true, true, true, true, true, true, true, true, true, true, true, true, true, true, true, true, true, true, true, true, true, true, true, true, true, true, true, true, true, true, true, true, true, true, true, true, true, true, true, true, true, true, true, true, true, true, false, false, false] [true, true, true, true, true, true, true, true, true, true, true, true, true, true, true, true, true, true, true, true, true, true, true, true, true, true, true, true, true, true, true, true, true, true, true, true, true, true, true, true, true, true, true, true, true, true, false, false, true] mixed (by kernel_rfl) rfl rfl rfl rfl rfl rfl rfl rfl (fun o ho => by cases ho; exact QX.Move TYok) ?_)
          | apply RA2.mk
          | exact RAll.nil
          | (refine RAll.cons rfl ?_ ?_)
          | (refine RA.step (L := [true, true, true, true, true, true, true, true, true, true, true, true, true, true, true, true, true, true, true, true, true, true, true, true, true, true, true, true, true, true, true, true, true, true, true, true, true, true, true, true, true, true, true, true, true, true, false, false, true]) (i := 46) (is := []) (by kernel_rfl) ?_)
          | (refine RA.step (L := [true, true, true, true, true, true, true, true, true, true, true, true, true, true, true, true, true, true, true, true, true, true, true, true, true, true, true, true, true, true, true, true, true, true, true, true, true, true, true, true, true, true, true, true, true, true, true, false, true]) (i := 47) (is := []) (by kernel_rfl) ?_)
          | (refine RA.done (L := [true, true, true, true, true, true, true, true, true, true, true, true, true, true, true, true, true, true, true, true, true, true, true, true, true, true, true, true, true, true, true, true, true, true, true, true, true, true, true, true, true, true, true, true, true, true, true, true, true]) (by kernel_rfl) ?_)
          | (refine RA.step (L := [true, true, true, true, true, true, true, true, true, true, true, true, true, true, true, true, true, true, true, true, true, true, true, true, true, true, true, true, true, true, true, true, true, true, true, true, true, true, true, true, true, true, true, true, true, true, false, false, false]) (i := 46) (is := [48]) (by kernel_rfl) ?_)
          | (refine RA.step (L := [true, true, true, true, true, true, true, true, true, true, true, true, true, true, true, true, true, true, true, true, true, true, true, true, true, true, true, true, true, true, true, true, true, true, true, true, true, true, true, true, true, true, true, true, true, true, true, false, false]) (i := 47) (is := [48]) (by kernel_rfl) ?_)
          | (refine RA.step (L := [true, true, true, true, true, true, true, true, true, true, true, true, true, true, true, true, true, true, true, true, true, true, true, true, true, true, true, true, true, true, true, true, true, true, true, true, true, true, true, true, true, true, true, true, true, true, true, true, false]) (i := 48) (is := []) (by kernel_rfl) ?_)
          | ((first | apply U_ | (apply Ug_; exact rfl; exact rfl) | (apply Ugq_; exact rfl; exact rfl) | apply Lex.u | (apply Lex.g; exact rfl; exact rfl) | (apply Lex.gq; exact rfl; exact rfl)); (first
    | exact QX.Move TYok
    | exact QX.Asg TYok
    | exact QX.Fld TYok
    | exact QX.Ld TYok
    | exact QX.Bin TYok
    | exact QX.Pick TYok
    | exact QX.Un TYok
    | exact QX.Len TYok
    | exact QX.Idx TYok
    | exact QX.Build TYok); exact rfl)
          | refine SX.Alloc TYok (h := ?_)
          | refine SX.Store TYok (h := ?_)
          | refine SX.Lit TYok (h := ?_)
          | refine SX.App TYok (h := ?_)
          | refine SX.Box TYok (h := ?_)
          | (apply S_isnil TYok; exact rfl; exact rfl; exact rfl; exact Ev.auto; intro bn hnil)
          | (apply RG.gT; exact rfl; exact rfl; (first | assumption | decide))
          | (apply RG.gF; exact rfl; exact rfl; (first | assumption | decide | (rw [ne_eq, Bool.not_eq_true]; assumption) | (rw [ne_eq, Bool.not_eq_false]; assumption)); exact rfl)
          | (refine W.condA (ht := fun hb => ?_) (hf := fun hb => ?_) <;> (try simp at hb) <;> (try (exfalso; omega))))
        exact Fin.ret ResL.auto
theorem resStep (l : List (Str × Bool)) (x : Str × Bool) : resOut (l ++ [x]) = resOut l ++ (if x.2 = true then [] else [x.1]) := by
  rw [resOut_append]
  congr 1
  cases hb : x.2 <;> simp [resOut, hb]
theorem rres_ok (a b : Ind) (ha : OkN a) (hb : OkN b) : ACalls Try.prog 48 [aN a, aN b] (.pv (slS (resL a b))) := by
  have h1 := rlets_ok a.lets b.lets ha.lets ha.lete hb.lete
  have h2 := rsameE_ok a.coupon ha.coupon b.coupon hb.coupon
  have hT : (resT a b).length = 6 := rfl
  have hlen : ∀ k, (resOut ((resT a b).take k)).length ≤ 6 := fun k => by
    have := resOut_len ((resT a b).take k)
    rw [List.length_take] at this; omega
  have t0 : resOut ((resT a b).take 1) = resOut ((resT a b).take 0) ++ (if a.face = b.face then [] else [FACE]) := by
    rw [show (resT a b).take 1 = (resT a b).take 0 ++ [(FACE, decide (a.face = b.face))] from rfl, resStep]; simp
  have t1 : resOut ((resT a b).take 2) = resOut ((resT a b).take 1) ++ (if a.start = b.start then [] else [FROM]) := by
    rw [show (resT a b).take 2 = (resT a b).take 1 ++ [(FROM, decide (a.start = b.start))] from rfl, resStep]; simp
  have t2 : resOut ((resT a b).take 3) = resOut ((resT a b).take 2) ++ (if a.due = b.due then [] else [TO]) := by
    rw [show (resT a b).take 3 = (resT a b).take 2 ++ [(TO, decide (a.due = b.due))] from rfl, resStep]; simp
  have t3 : resOut ((resT a b).take 4) = resOut ((resT a b).take 3) ++ (if termF a b = true then [] else [COUPON]) := by
    rw [show (resT a b).take 4 = (resT a b).take 3 ++ [(COUPON, termF a b)] from rfl, resStep]
  have t4 : resOut ((resT a b).take 5) = resOut ((resT a b).take 4) ++ (if a.rank = b.rank then [] else [RANK]) := by
    rw [show (resT a b).take 5 = (resT a b).take 4 ++ [(RANK, decide (a.rank = b.rank))] from rfl, resStep]; simp
  have t5 : resOut ((resT a b).take 6) = resOut ((resT a b).take 5) ++ (if a.majority = b.majority then [] else [MAJ]) := by
    rw [show (resT a b).take 6 = (resT a b).take 5 ++ [(MAJ, decide (a.majority = b.majority))] from rfl, resStep]; simp
  refine ACalls.of_W (qs := [slS (resL a b)]) [4] 71 Try.func48 (by kernel_rfl) rfl rfl rfl fun G => ?_
  refine W.initA (hw := ?_)
  apply W.seq
  apply cutK (σ := Unit) 71 [] (fun _ => True) (fun _ => [(2, (True, .addr 2 0 0)), (3, (True, .addr 3 0 0))]) (fun _ => [(2, ⟨40, 25, [encN a]⟩), (3, ⟨40, 25, [encN b]⟩)])
  case hp => repeat (first | exact Pick.nil | apply Pick.cons rfl)
  case hx =>
    repeat' (first
      | apply RG.nil
      | apply Lex.nil
      | apply Then.n
      | apply Then.r
      | apply Then.x
      | apply InBlock.n
      | apply InBlock.r
      | apply InBlock.hit
      | (apply InBlock.miss; exact rfl)
      | apply W.seq
      | apply W.region
      | apply W.block
      | apply W.skip
      | apply W.ret
      | apply W.exit
      | ((first | apply U_ | (apply Ug_; exact rfl; exact rfl) | (apply Ugq_; exact rfl; exact rfl)); (first
    | exact QX.Move TYok
    | exact QX.Asg TYok
    | exact QX.Fld TYok
    | exact QX.Ld TYok
    | exact QX.Bin TYok
    | exact QX.Pick TYok
    | exact QX.Un TYok); exact rfl)
      | refine SX.Lit TYok (h := ?_)
      | refine SX.App TYok (h := ?_)
      | refine SX.Box TYok (h := ?_)
      | (apply RG.gT; exact rfl; exact rfl; (first | assumption | decide))
      | (apply RG.gF; exact rfl; exact rfl; (first | assumption | decide | (rw [ne_eq, Bool.not_eq_true]; assumption) | (rw [ne_eq, Bool.not_eq_false]; assumption)); exact rfl)
      | (refine W.condA (ht := fun hb => ?_) (hf := fun hb => ?_) <;> (try simp at hb) <;> (try (exfalso; omega))))
    refine ⟨(), trivial, ?_⟩
    exact Le.auto
  case hy =>
  rintro _ _
  apply W.norm (by repeat (first | exact App.nil | apply App.cons))
  apply W.seq
  apply cutK (σ := Unit) 71 [] (fun _ => True) (fun _ => [(2, (True, .addr 2 0 0)), (3, (True, .addr 3 0 0)), (5, (True, .slc 5))]) (fun _ => [(2, ⟨40, 25, [encN a]⟩), (3, ⟨40, 25, [encN b]⟩), (5, ⟨9, 1, (resOut ((resT a b).take 0)).map encS⟩)])
  case hp => repeat (first | exact Pick.nil | apply Pick.cons rfl)
  case hx =>
    repeat' (first
      | apply RG.nil
      | apply Lex.nil
      | apply Then.n
      | apply Then.r
      | apply Then.x
      | apply InBlock.n
      | apply InBlock.r
      | apply InBlock.hit
      | (apply InBlock.miss; exact rfl)
      | apply W.seq
      | apply W.region
      | apply W.block
      | apply W.skip
      | apply W.ret
      | apply W.exit
      | ((first | apply U_ | (apply Ug_; exact rfl; exact rfl) | (apply Ugq_; exact rfl; exact rfl)); (first
    | exact QX.Move TYok
    | exact QX.Asg TYok
    | exact QX.Fld TYok
    | exact QX.Ld TYok
    | exact QX.Bin TYok
    | exact QX.Pick TYok
    | exact QX.Un TYok); exact rfl)
      | refine SX.Lit TYok (h := ?_)
      | refine SX.App TYok (h := ?_)
      | refine SX.Box TYok (h := ?_)
      | (apply RG.gT; exact rfl; exact rfl; (first | assumption | decide))
      | (apply RG.gF; exact rfl; exact rfl; (first | assumption | decide | (rw [ne_eq, Bool.not_eq_true]; assumption) | (rw [ne_eq, Bool.not_eq_false]; assumption)); exact rfl)
      | (refine W.condA (ht := fun hb => ?_) (hf := fun hb => ?_) <;> (try simp at hb) <;> (try (exfalso; omega))))
    refine ⟨(), trivial, ?_⟩
    refine Le.trans (Le.nilOwn (t := 5) (n := 5) (E := 9) (sz := 1) rfl) ?_
    exact Le.auto
  case hy =>
  rintro _ _
  apply W.norm (by repeat (first | exact App.nil | apply App.cons))
  apply W.seq
  apply cutK (σ := Unit) 71 [] (fun _ => True) (fun _ => [(2, (True, .addr 2 0 0)), (3, (True, .addr 3 0 0)), (5, (True, .slc 5))]) (fun _ => [(2, ⟨40, 25, [encN a]⟩), (3, ⟨40, 25, [encN b]⟩), (5, ⟨9, 1, (resOut ((resT a b).take 1)).map encS⟩)])
  case hp => repeat (first | exact Pick.nil | apply Pick.cons rfl)
  case hx =>
    have hl := hlen 0
    have hz : (resOut []).length = 0 := rfl
    repeat' (first
      | apply RG.nil
      | apply Lex.nil
      | apply Then.n
      | apply Then.r
      | apply Then.x
      | apply InBlock.n
      | apply InBlock.r
      | apply InBlock.hit
      | (apply InBlock.miss; exact rfl)
      | apply W.seq
      | apply W.region
      | apply W.block
      | apply W.skip
      | apply W.ret
      | apply W.exit
      | ((first | apply U_ | (apply Ug_; exact rfl; exact rfl) | (apply Ugq_; exact rfl; exact rfl)); (first
    | exact QX.Move TYok
    | exact QX.Asg TYok
    | exact QX.Fld TYok
    | exact QX.Ld TYok
    | exact QX.Bin TYok
    | exact QX.Pick TYok
    | exact QX.Un TYok); exact rfl)
      | refine SX.Lit TYok (h := ?_)
      | refine SX.App TYok (h := ?_)
      | refine SX.Box TYok (h := ?_)
      | (apply RG.gT; exact rfl; exact rfl; (first | assumption | decide))
      | (apply RG.gF; exact rfl; exact rfl; (first | assumption | decide | (rw [ne_eq, Bool.not_eq_true]; assumption) | (rw [ne_eq, Bool.not_eq_false]; assumption)); exact rfl)
      | (refine W.condA (ht := fun hb => ?_) (hf := fun hb => ?_) <;> (try simp at hb) <;> (try (exfalso; omega))))
    · rw [if_neg hb] at t0
      refine ⟨(), trivial, ?_⟩
      simp only [t0, List.map_append, List.map_cons, List.map_nil]
      exact Le.auto
    · rw [if_pos hb, List.append_nil] at t0
      refine ⟨(), trivial, ?_⟩
      simp only [t0]
      exact Le.auto
  case hy =>
  rintro _ _
  apply W.norm (by repeat (first | exact App.nil | apply App.cons))
  apply W.seq
  apply cutK (σ := Unit) 71 [] (fun _ => True) (fun _ => [(2, (True, .addr 2 0 0)), (3, (True, .addr 3 0 0)), (5, (True, .slc 5))]) (fun _ => [(2, ⟨40, 25, [encN a]⟩), (3, ⟨40, 25, [encN b]⟩), (5, ⟨9, 1, (resOut ((resT a b).take 2)).map encS⟩)])
  case hp => repeat (first | exact Pick.nil | apply Pick.cons rfl)
  case hx =>
    have hl := hlen 1
    repeat' (first
      | apply RG.nil
      | apply Lex.nil
      | apply Then.n
      | apply Then.r
      | apply Then.x
      | apply InBlock.n
      | apply InBlock.r
      | apply InBlock.hit
      | (apply InBlock.miss; exact rfl)
      | apply W.seq
      | apply W.region
      | apply W.block
      | apply W.skip
      | apply W.ret
      | apply W.exit
      | ((first | apply U_ | (apply Ug_; exact rfl; exact rfl) | (apply Ugq_; exact rfl; exact rfl)); (first
    | exact QX.Move TYok
    | exact QX.Asg TYok
    | exact QX.Fld TYok
    | exact QX.Ld TYok
    | exact QX.Bin TYok
    | exact QX.Pick TYok
    | exact QX.Un TYok); exact rfl)
      | refine SX.Lit TYok (h := ?_)
      | refine SX.App TYok (h := ?_)
      | refine SX.Box TYok (h := ?_)
      | (apply RG.gT; exact rfl; exact rfl; (first | assumption | decide))
      | (apply RG.gF; exact rfl; exact rfl; (first | assumption | decide | (rw [ne_eq, Bool.not_eq_true]; assumption) | (rw [ne_eq, Bool.not_eq_false]; assumption)); exact rfl)
      | (refine W.condA (ht := fun hb => ?_) (hf := fun hb => ?_) <;> (try simp at hb) <;> (try (exfalso; omega))))
    · rw [if_neg hb] at t1
      refine ⟨(), trivial, ?_⟩
      simp only [t1, List.map_append, List.map_cons, List.map_nil]
      exact Le.auto
    · rw [if_pos hb, List.append_nil] at t1
      refine ⟨(), trivial, ?_⟩
      simp only [t1]
      exact Le.auto
  case hy =>
  rintro _ _
  apply W.norm (by repeat (first | exact App.nil | apply App.cons))
  apply W.seq
  apply cutK (σ := Unit) 71 [] (fun _ => True) (fun _ => [(2, (True, .addr 2 0 0)), (3, (True, .addr 3 0 0)), (5, (True, .slc 5))]) (fun _ => [(2, ⟨40, 25, [encN a]⟩), (3, ⟨40, 25, [encN b]⟩), (5, ⟨9, 1, (resOut ((resT a b).take 3)).map encS⟩)])
  case hp => repeat (first | exact Pick.nil | apply Pick.cons rfl)
  case hx =>
    have hl := hlen 2
    repeat' (first
      | apply RG.nil
      | apply Lex.nil
      | apply Then.n
      | apply Then.r
      | apply Then.x
      | apply InBlock.n
      | apply InBlock.r
      | apply InBlock.hit
      | (apply InBlock.miss; exact rfl)
      | apply W.seq
      | apply W.region
      | apply W.block
      | apply W.skip
      | apply W.ret
      | apply W.exit
      | ((first | apply U_ | (apply Ug_; exact rfl; exact rfl) | (apply Ugq_; exact rfl; exact rfl)); (first
    | exact QX.Move TYok
    | exact QX.Asg TYok
    | exact QX.Fld TYok
    | exact QX.Ld TYok
    | exact QX.Bin TYok
    | exact QX.Pick TYok
    | exact QX.Un TYok); exact rfl)
      | refine SX.Lit TYok (h := ?_)
      | refine SX.App TYok (h := ?_)
      | refine SX.Box TYok (h := ?_)
      | (apply RG.gT; exact rfl; exact rfl; (first | assumption | decide))
      | (apply RG.gF; exact rfl; exact rfl; (first | assumption | decide | (rw [ne_eq, Bool.not_eq_true]; assumption) | (rw [ne_eq, Bool.not_eq_false]; assumption)); exact rfl)
      | (refine W.condA (ht := fun hb => ?_) (hf := fun hb => ?_) <;> (try simp at hb) <;> (try (exfalso; omega))))
    · rw [if_neg hb] at t2
      refine ⟨(), trivial, ?_⟩
      simp only [t2, List.map_append, List.map_cons, List.map_nil]
      exact Le.auto
    · rw [if_pos hb, List.append_nil] at t2
      refine ⟨(), trivial, ?_⟩
      simp only [t2]
      exact Le.auto
  case hy =>
  rintro _ _
  apply W.norm (by repeat (first | exact App.nil | apply App.cons))
  apply W.seq
  apply cutK (σ := Unit) 71 [] (fun _ => True) (fun _ => [(2, (True, .addr 2 0 0)), (3, (True, .addr 3 0 0)), (5, (True, .slc 5))]) (fun _ => [(2, ⟨40, 25, [encN a]⟩), (3, ⟨40, 25, [encN b]⟩), (5, ⟨9, 1, (resOut ((resT a b).take 4)).map encS⟩)])
  case hp => repeat (first | exact Pick.nil | apply Pick.cons rfl)
  case hx =>
    have hl := hlen 3
    repeat' (first
      | apply RG.nil
      | apply Lex.nil
      | apply Then.n
      | apply Then.r
      | apply Then.x
      | apply InBlock.n
      | apply InBlock.r
      | apply InBlock.hit
      | (apply InBlock.miss; exact rfl)
      | apply W.seq
      | apply W.region
      | apply W.block
      | apply W.skip
      | apply W.ret
      | apply W.exit
      | ((first | apply U_ | (apply Ug_; exact rfl; exact rfl) | (apply Ugq_; exact rfl; exact rfl)); (first
    | exact QX.Move TYok
    | exact QX.Asg TYok
    | exact QX.Fld TYok
    | exact QX.Ld TYok
    | exact QX.Bin TYok
    | exact QX.Pick TYok
    | exact QX.Un TYok
    | (apply Q_call (h1); exact EvL.auto; exact rfl)
    | (apply Q_calld (h2); exact EvD.auto)); exact rfl)
      | refine SX.Lit TYok (h := ?_)
      | refine SX.App TYok (h := ?_)
      | refine SX.Box TYok (h := ?_)
      | (apply RG.gT; exact rfl; exact rfl; (first | assumption | decide))
      | (apply RG.gF; exact rfl; exact rfl; (first | assumption | decide | (rw [ne_eq, Bool.not_eq_true]; assumption) | (rw [ne_eq, Bool.not_eq_false]; assumption)); exact rfl)
      | (refine W.condA (ht := fun hb => ?_) (hf := fun hb => ?_) <;> (try simp at hb) <;> (try (exfalso; omega))))
    · have hc : ¬ termF a b = true := fun q => by
        unfold termF at q
        simp_all
      rw [if_neg hc] at t3
      refine ⟨(), trivial, ?_⟩
      simp only [t3, List.map_append, List.map_cons, List.map_nil]
      exact Le.auto
    · have hc : termF a b = true := by
        unfold termF
        simp_all
      rw [if_pos hc, List.append_nil] at t3
      refine ⟨(), trivial, ?_⟩
      simp only [t3]
      exact Le.auto
  case hy =>
  rintro _ _
  apply W.norm (by repeat (first | exact App.nil | apply App.cons))
  apply W.seq
  apply cutK (σ := Unit) 71 [] (fun _ => True) (fun _ => [(2, (True, .addr 2 0 0)), (3, (True, .addr 3 0 0)), (5, (True, .slc 5))]) (fun _ => [(2, ⟨40, 25, [encN a]⟩), (3, ⟨40, 25, [encN b]⟩), (5, ⟨9, 1, (resOut ((resT a b).take 5)).map encS⟩)])
  case hp => repeat (first | exact Pick.nil | apply Pick.cons rfl)
  case hx =>
    have hl := hlen 4
    repeat' (first
      | apply RG.nil
      | apply Lex.nil
      | apply Then.n
      | apply Then.r
      | apply Then.x
      | apply InBlock.n
      | apply InBlock.r
      | apply InBlock.hit
      | (apply InBlock.miss; exact rfl)
      | apply W.seq
      | apply W.region
      | apply W.block
      | apply W.skip
      | apply W.ret
      | apply W.exit
      | ((first | apply U_ | (apply Ug_; exact rfl; exact rfl) | (apply Ugq_; exact rfl; exact rfl)); (first
    | exact QX.Move TYok
    | exact QX.Asg TYok
    | exact QX.Fld TYok
    | exact QX.Ld TYok
    | exact QX.Bin TYok
    | exact QX.Pick TYok
    | exact QX.Un TYok); exact rfl)
      | refine SX.Lit TYok (h := ?_)
      | refine SX.App TYok (h := ?_)
      | refine SX.Box TYok (h := ?_)
      | (apply RG.gT; exact rfl; exact rfl; (first | assumption | decide))
      | (apply RG.gF; exact rfl; exact rfl; (first | assumption | decide | (rw [ne_eq, Bool.not_eq_true]; assumption) | (rw [ne_eq, Bool.not_eq_false]; assumption)); exact rfl)
      | (refine W.condA (ht := fun hb => ?_) (hf := fun hb => ?_) <;> (try simp at hb) <;> (try (exfalso; omega))))
    · rw [if_neg hb] at t4
      refine ⟨(), trivial, ?_⟩
      simp only [t4, List.map_append, List.map_cons, List.map_nil]
      exact Le.auto
    · rw [if_pos hb, List.append_nil] at t4
      refine ⟨(), trivial, ?_⟩
      simp only [t4]
      exact Le.auto
  case hy =>
  rintro _ _
  apply W.norm (by repeat (first | exact App.nil | apply App.cons))
  apply W.seq
  apply cutK (σ := Unit) 71 [] (fun _ => True) (fun _ => [(2, (True, .addr 2 0 0)), (3, (True, .addr 3 0 0)), (5, (True, .slc 5))]) (fun _ => [(2, ⟨40, 25, [encN a]⟩), (3, ⟨40, 25, [encN b]⟩), (5, ⟨9, 1, (resOut ((resT a b).take 6)).map encS⟩)])
  case hp => repeat (first | exact Pick.nil | apply Pick.cons rfl)
  case hx =>
    have hl := hlen 5
    repeat' (first
      | apply RG.nil
      | apply Lex.nil
      | apply Then.n
      | apply Then.r
      | apply Then.x
      | apply InBlock.n
      | apply InBlock.r
      | apply InBlock.hit
      | (apply InBlock.miss; exact rfl)
      | apply W.seq
      | apply W.region
      | apply W.block
      | apply W.skip
      | apply W.ret
      | apply W.exit
      | ((first | apply U_ | (apply Ug_; exact rfl; exact rfl) | (apply Ugq_; exact rfl; exact rfl)); (first
    | exact QX.Move TYok
    | exact QX.Asg TYok
    | exact QX.Fld TYok
    | exact QX.Ld TYok
    | exact QX.Bin TYok
    | exact QX.Pick TYok
    | exact QX.Un TYok); exact rfl)
      | refine SX.Lit TYok (h := ?_)
      | refine SX.App TYok (h := ?_)
      | refine SX.Box TYok (h := ?_)
      | (apply RG.gT; exact rfl; exact rfl; (first | assumption | decide))
      | (apply RG.gF; exact rfl; exact rfl; (first | assumption | decide | (rw [ne_eq, Bool.not_eq_true]; assumption) | (rw [ne_eq, Bool.not_eq_false]; assumption)); exact rfl)
      | (refine W.condA (ht := fun hb => ?_) (hf := fun hb => ?_) <;> (try simp at hb) <;> (try (exfalso; omega))))
    · rw [if_neg hb] at t5
      refine ⟨(), trivial, ?_⟩
      simp only [t5, List.map_append, List.map_cons, List.map_nil]
      exact Le.auto
    · rw [if_pos hb, List.append_nil] at t5
      refine ⟨(), trivial, ?_⟩
      simp only [t5]
      exact Le.auto
  case hy =>
  rintro _ _
  apply W.norm (by repeat (first | exact App.nil | apply App.cons))
  have he : (resT a b).take 6 = resT a b := rfl
  simp only [Nat.reduceAdd, he]
  repeat' (first
    | apply RG.nil
    | apply Lex.nil
    | apply Then.n
    | apply Then.r
    | apply Then.x
    | apply InBlock.n
    | apply InBlock.r
    | apply InBlock.hit
    | (apply InBlock.miss; exact rfl)
    | apply W.seq
    | apply W.region
    | apply W.block
    | apply W.skip
    | apply W.ret
    | apply W.exit
    | ((first | apply U_ | (apply Ug_; exact rfl; exact rfl) | (apply Ugq_; exact rfl; exact rfl)); (first
    | exact QX.Move TYok
    | exact QX.Asg TYok
    | exact QX.Fld TYok
    | exact QX.Ld TYok
    | exact QX.Bin TYok
    | exact QX.Pick TYok
    | exact QX.Un TYok); exact rfl)
    | refine SX.Lit TYok (h := ?_)
    | refine SX.App TYok (h := ?_)
    | refine SX.Box TYok (h := ?_)
    | (apply RG.gT; exact rfl; exact rfl; (first | assumption | decide))
    | (apply RG.gF; exact rfl; exact rfl; (first | assumption | decide | (rw [ne_eq, Bool.not_eq_true]; assumption) | (rw [ne_eq, Bool.not_eq_false]; assumption)); exact rfl)
    | (refine W.condA (ht := fun hb => ?_) (hf := fun hb => ?_) <;> (try simp at hb) <;> (try (exfalso; omega))))
  exact Fin.ret ResL.auto
def resF (a b : Ind) : Bool := decide (0 < ((resL a b).length : Int))
theorem rreserved_ok38 (a b : Ind) (ha : OkN a) (hb : OkN b) : ACalls Try.prog 26 [aN a, aN b] (.pv (cB (resF a b))) := by
  have h := rres_ok a b ha hb
  refine ACalls.of_W (qs := [cB (resF a b)]) [4] 10 Try.func26 (by kernel_rfl) rfl rfl rfl fun G => ?_
  refine W.initA (hw := ?_)
  repeat' (first
    | apply RG.nil
    | apply Lex.nil
    | apply Then.n
    | apply Then.r
    | apply Then.x
    | apply InBlock.n
    | apply InBlock.r
    | apply InBlock.hit
    | (apply InBlock.miss; exact rfl)
    | apply W.seq
    | apply W.region
    | apply W.block
    | apply W.skip
    | apply W.ret
    | apply W.exit
    | ((first | apply U_); (first
    | exact QX.Asg TYok
    | exact QX.Ld TYok
    | exact QX.Bin TYok
    | exact QX.Len TYok
    | (apply Q_calld (h); exact EvD.auto)); exact rfl)
    | refine SX.Box TYok (h := ?_)
    | (refine W.condA (ht := fun hb => ?_) (hf := fun hb => ?_) <;> (try simp at hb) <;> (try (exfalso; omega))))
  exact Fin.ret ResL.auto
theorem reserved_ok38 (a b : Ind) (ha : OkN a) (hb : OkN b) : ACalls Try.prog 24 [aN a, aN b] (.pv (cB (resF a b))) := by
  have h := diffRes_ok a b ha hb
  refine ACalls.of_W (qs := [cB (resF a b)]) [4] 10 Try.func24 (by kernel_rfl) rfl rfl rfl fun G => ?_
  refine W.initA (hw := ?_)
  repeat' (first
    | apply RG.nil
    | apply Lex.nil
    | apply Then.n
    | apply Then.r
    | apply Then.x
    | apply InBlock.n
    | apply InBlock.r
    | apply InBlock.hit
    | (apply InBlock.miss; exact rfl)
    | apply W.seq
    | apply W.region
    | apply W.block
    | apply W.skip
    | apply W.ret
    | apply W.exit
    | ((first | apply U_); (first
    | exact QX.Asg TYok
    | exact QX.Ld TYok
    | exact QX.Bin TYok
    | exact QX.Len TYok
    | (apply Q_calld (h); exact EvD.auto)); exact rfl)
    | refine SX.Box TYok (h := ?_)
    | (refine W.condA (ht := fun hb => ?_) (hf := fun hb => ?_) <;> (try simp at hb) <;> (try (exfalso; omega))))
  exact Fin.ret ResL.auto

end Go.Proofs.Ytionjeodcmnneaa
