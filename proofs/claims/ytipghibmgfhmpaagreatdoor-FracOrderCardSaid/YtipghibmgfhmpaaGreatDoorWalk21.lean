/-
  Fractions: the law of the order.
-/
import Derived.Test.YtipghibmgfhmpaaGreatDoorWalk16
set_option linter.unusedVariables false
set_option linter.unusedSimpArgs false
set_option maxHeartbeats 8000000
namespace Go.Proofs.YtipghibmgfhmpaaGreatDoor
open Lf Go
attribute [local irreducible] PureOp EffOp Ev RG W Then InBlock Lf.Fin nth App InitE Pick SubE SubF SubG EvL EvD EvP EvR ResL Lf.Lex SubR SubBR RA RAll EvC FinO FinM ResM FinB ResD FinS val pw digs trimL

theorem mul_lt {x y : Int} {m n k : Nat} (hk : m + n = k) (hx : -pw m < x ∧ x < pw m) (hy : -pw n < y ∧ y < pw n) : -pw k < x * y ∧ x * y < pw k := by
  subst hk
  have h1 := pw_pos m
  have h2 := pw_pos n
  have h : (x * y).natAbs < (pw (m + n)).natAbs := by
    rw [pw_add, Int.natAbs_mul, Int.natAbs_mul]
    exact Nat.mul_lt_mul'' (by omega) (by omega)
  have := pw_pos (m + n)
  omega
def bd (r : Rat) (n : Nat) : Prop := (-pw n < r.num ∧ r.num < pw n) ∧ (-pw n < (r.den : Int) ∧ (r.den : Int) < pw n)
theorem bd_ok {r : Rat} {n : Nat} (h : bd r n) (hn : n ≤ 60) : okF r := by
  have := pw_mono hn
  obtain ⟨h1, h2⟩ := h
  exact ⟨okZ.of (by omega), okZ.of (by omega)⟩
theorem bd_div {x y : Int} {n : Nat} (h0 : y ≠ 0) (hx : -pw n < x ∧ x < pw n) (hy : -pw n < y ∧ y < pw n) : bd (Rat.divInt x y) n := by
  obtain ⟨h1, h2⟩ := divInt_le (x := x) h0
  have a := sgn_cases x
  have b := sgn_cases y
  have c := sgn_cases (Rat.divInt x y).num
  have d := sgn_cases ((Rat.divInt x y).den : Int)
  exact ⟨by omega, by omega⟩
theorem add_bd {a b : Rat} {m n k : Nat} (hk : m + n = k) (ha : bd a m) (hB : bd b n) (h60 : k + 1 ≤ 60) : bd (a + b) (k + 1) ∧ addOk a b := by
  have h1 := mul_lt hk ha.1 hB.2
  have h2 := mul_lt (m := n) (n := m) (k := k) (by omega) hB.1 ha.2
  have h3 := mul_lt hk ha.2 hB.2
  have e : pw (k + 1) = 1048576 * pw k := by rw [pw_succ]
  have hm := pw_mono h60
  have hp := pw_pos k
  refine ⟨?_, ⟨⟨okZ.of (by omega), okZ.of (by omega), okZ.of (by omega)⟩, okZ.of (by omega)⟩⟩
  rw [rat_add]
  exact bd_div (mul_ne (den_ne a) (den_ne b)) (by omega) (by omega)
theorem mul_bd {a b : Rat} {m n k : Nat} (hk : m + n = k) (ha : bd a m) (hB : bd b n) (h60 : k ≤ 60) : bd (a * b) k ∧ mulOk a b := by
  have h1 := mul_lt hk ha.1 hB.1
  have h3 := mul_lt hk ha.2 hB.2
  have hm := pw_mono h60
  refine ⟨?_, ⟨okZ.of (by omega), okZ.of (by omega)⟩⟩
  rw [rat_mul]
  exact bd_div (mul_ne (den_ne a) (den_ne b)) h1 h3
theorem neg_bd {b : Rat} {n : Nat} (h : bd b n) : bd (-b) n := by
  obtain ⟨h1, h2⟩ := h
  refine ⟨?_, ?_⟩
  · rw [Rat.neg_num]; omega
  · rw [Rat.neg_den]; exact h2
theorem div_ok' {a b : Rat} {m n k : Nat} (hk : m + n = k) (ha : bd a m) (hB : bd b n) (h60 : k ≤ 60) : divOk a b := by
  have h1 := mul_lt hk ha.1 hB.2
  have h3 := mul_lt hk ha.2 hB.1
  have hm := pw_mono h60
  exact ⟨okZ.of (by omega), okZ.of (by omega)⟩
theorem bd_of {r : Rat} {n : Nat} (h1 : (digs (mag r.num)).length ≤ n) (h2 : (digs (mag r.den)).length ≤ n) : bd r n := ⟨lt40 h1, lt40 h2⟩
theorem same_zero (a : Rat) (ha : okF a) : ACalls Tryz.prog 14 [zF0, zF a] (.pv (cB false)) := by
  have l1 := num_len ha.1
  have l2 := num_len ha.2
  have c := sgn_cases (a.den : Int)
  have hp := den_pos a
  have s1 := sameBig_ok 0 (sgn a.num) [] (digs (mag a.num)) (by decide) (by omega)
  have s2 := sameBig_ok 0 (sgn a.den) [] (digs (mag a.den)) (by decide) (by omega)
  rw [decide_eq_false (show ¬ (0 : Int) = sgn a.den by omega), Bool.false_and] at s2
  generalize (decide ((0 : Int) = sgn a.num) && decide (([] : List Int) = digs (mag a.num))) = w at *
  refine ACalls.of_W (qs := [cB false]) [4] 17 Tryz.func14 (by kernel_rfl) rfl rfl rfl fun G => ?_
  refine W.initA (hw := ?_)
  repeat' (first
    | ((first | apply U_ | (apply Ug_; exact rfl; exact rfl) | (apply Ugq_; exact rfl; exact rfl)); (first
    | exact QX.Move TYok
    | exact QX.Asg TYok
    | exact QX.Fld TYok
    | exact QX.Ld TYok
    | exact QX.Pick TYok
    | (apply Q_calld (s1); exact EvD.auto)
    | (apply Q_calld (s2); exact EvD.auto)); exact rfl)
    | refine SX.Box TYok (h := ?_)
    | apply RG.nil
    | apply Lex.nil
    | apply Then.n
    | apply Then.r
    | apply Then.x
    | apply InBlock.n
    | apply InBlock.r
    | apply InBlock.hit
    | (apply InBlock.miss; exact rfl)
    | apply W.seq
    | apply W.region
    | apply W.block
    | apply W.skip
    | apply W.ret
    | apply W.exit
    | (apply RG.gT; exact rfl; exact rfl; (first | assumption | decide))
    | (apply RG.gF; exact rfl; exact rfl; (first | assumption | decide | (rw [ne_eq, Bool.not_eq_true]; assumption) | (rw [ne_eq, Bool.not_eq_false]; assumption)); exact rfl)
    | (refine W.condA (ht := fun hb => ?_) (hf := fun hb => ?_) <;> (try simp at hb) <;> (try (exfalso; omega))))
  all_goals first
    | exact Fin.ret ResL.auto
    | (cases w <;> exact Fin.ret ResL.auto)
theorem rt (r : Rat) (h : okF r) : ACalls Tryz.prog 34 [zF r, cI 0] (.tup [zF r, cB true]) := by
  have := right_ok2 r h 0
  rwa [decide_eq_true rfl] at this
theorem sm (r : Rat) (h : okF r) : ACalls Tryz.prog 14 [zF r, zF r] (.pv (cB true)) := by
  have := same_ok r r h h
  rwa [decide_eq_true rfl] at this
theorem divInt01 : Rat.divInt 0 1 = 0 ∧ Rat.divInt 1 1 = 1 := by decide +kernel
attribute [local irreducible] sgn mag gcdZ quoZ remZ txtZ readF fullZ fullE Rat.divInt
set_option maxRecDepth 20000 in
theorem cmpR_cases (a b : Rat) : (cmpR a b = -1 ∧ a < b) ∨ (cmpR a b = 0 ∧ a = b) ∨ (cmpR a b = 1 ∧ b < a) := by
  unfold cmpR
  rcases cmp_cases (a.num * b.den) (b.num * a.den) with h | h | h
  · exact .inl ⟨h.1, (Rat.lt_iff a b).2 h.2⟩
  · exact .inr (.inl ⟨h.1, Rat.le_antisymm ((Rat.le_iff a b).2 (by omega)) ((Rat.le_iff b a).2 (by omega))⟩)
  · exact .inr (.inr ⟨h.1, (Rat.lt_iff b a).2 h.2⟩)
theorem sgnR_cases (r : Rat) : (sgn r.num = -1 ∧ r < 0) ∨ (sgn r.num = 0 ∧ r = 0) ∨ (sgn r.num = 1 ∧ 0 < r) := by
  have h1 := cmpR_cases r 0
  have c := sgn_cases r.num
  have e : cmpR r 0 = sgn r.num := by
    unfold cmpR
    have k := cmp_cases (r.num * ((0 : Rat).den : Int)) ((0 : Rat).num * r.den)
    rw [show ((0 : Rat).den : Int) = 1 from rfl, show (0 : Rat).num = 0 from rfl, Int.mul_one, Int.zero_mul] at k ⊢
    omega
  rw [e] at h1
  exact h1
theorem cmpR_swap (a b : Rat) : cmpR b a = -cmpR a b := by unfold cmpR; exact cmp_swap _ _
theorem cmpR_add (a b c : Rat) : cmpR (a + c) (b + c) = cmpR a b := by
  rcases cmpR_cases a b with h | h | h <;> rcases cmpR_cases (a + c) (b + c) with k | k | k <;> first | (rw [h.1, k.1]; done) | (exfalso; have := h.2; have := k.2; grind)
theorem cmpR_sub (a b : Rat) : sgn (a - b).num = cmpR a b := by
  rcases cmpR_cases a b with h | h | h <;> rcases sgnR_cases (a - b) with k | k | k <;> first | (rw [h.1, k.1]; done) | (exfalso; have := h.2; have := k.2; grind)
theorem cmpR_mul (a b c : Rat) : cmpR (a * c) (b * c) = cmpR a b * sgn c.num := by
  have pos : ∀ x y : Rat, x < y → 0 < c → x * c < y * c := fun x y h hc => Rat.mul_lt_mul_of_pos_right h hc
  have neg : ∀ x y : Rat, x < y → c < 0 → y * c < x * c := fun x y h hc => by
    have := Rat.mul_lt_mul_of_pos_right h (c := -c) (by grind)
    grind
  rcases sgnR_cases c with s | s | s
  · rcases cmpR_cases a b with h | h | h <;> rcases cmpR_cases (a * c) (b * c) with k | k | k <;> rw [h.1, k.1, s.1] <;> first | rfl | (exfalso; have h2 := h.2; have k2 := k.2; first | (have := neg _ _ h2 s.2; grind) | (subst h2; grind))
  · have := s.2
    subst this
    rw [s.1, Int.mul_zero, Rat.mul_zero, Rat.mul_zero]
    rcases cmpR_cases 0 0 with k | k | k
    · exfalso; have := k.2; grind
    · exact k.1
    · exfalso; have := k.2; grind
  · rcases cmpR_cases a b with h | h | h <;> rcases cmpR_cases (a * c) (b * c) with k | k | k <;> rw [h.1, k.1, s.1] <;> first | rfl | (exfalso; have h2 := h.2; have k2 := k.2; first | (have := pos _ _ h2 s.2; grind) | (subst h2; grind))
theorem cmpR_trans {a b c : Rat} : ¬ ((cmpR a b ≤ 0 ∧ cmpR b c ≤ 0) ∧ 0 < cmpR a c) := by
  rintro ⟨⟨h1, h2⟩, h3⟩
  rcases cmpR_cases a b with h | h | h <;> rcases cmpR_cases b c with k | k | k <;> rcases cmpR_cases a c with m | m | m <;> first | omega | (have := h.2; have := k.2; have := m.2; grind)
set_option maxRecDepth 20000 in
theorem forder_ok (s1 s1' s2 s2' s3 s3' : Int) (l1 l1' l2 l2' l3 l3' : List Int) (h1 : l1.length ≤ 9223372036854775807 ∧ l1'.length ≤ 9223372036854775807) (h2 : l2.length ≤ 9223372036854775807 ∧ l2'.length ≤ 9223372036854775807) (h3 : l3.length ≤ 9223372036854775807 ∧ l3'.length ≤ 9223372036854775807) : GCalls Tryz.prog 3 powC 5 [fB s1 l1 s1' l1', fB s2 l2 s2' l2', fB s3 l3 s3' l3'] (.pv (cB true)) := by
  have h0 := small_ok
  have f1 := few_ok s1 l1 s1' l1' 12 h1.1 h1.2
  have f2 := few_ok s2 l2 s2' l2' 12 h2.1 h2.2
  have f3 := few_ok s3 l3 s3' l3' 12 h3.1 h3.2
  have r1 := fright_ok s1 l1 s1' l1' h1.1 h1.2
  have r2 := fright_ok s2 l2 s2' l2' h2.1 h2.2
  have r3 := fright_ok s3 l3 s3' l3' h3.1 h3.2
  by_cases hw : (((((decide ((l1.length : Int) ≤ 12) && decide ((l1'.length : Int) ≤ 12)) = true ∧ (decide ((l2.length : Int) ≤ 12) && decide ((l2'.length : Int) ≤ 12)) = true) ∧ (decide ((l3.length : Int) ≤ 12) && decide ((l3'.length : Int) ≤ 12)) = true) ∧ rightFB s1 l1 s1' l1' = true) ∧ rightFB s2 l2 s2' l2' = true) ∧ rightFB s3 l3 s3' l3' = true
  case neg =>
    generalize (decide ((l1.length : Int) ≤ 12) && decide ((l1'.length : Int) ≤ 12)) = b1 at *
    generalize (decide ((l2.length : Int) ≤ 12) && decide ((l2'.length : Int) ≤ 12)) = b2 at *
    generalize (decide ((l3.length : Int) ≤ 12) && decide ((l3'.length : Int) ≤ 12)) = b3 at *
    generalize rightFB s1 l1 s1' l1' = c1 at *
    generalize rightFB s2 l2 s2' l2' = c2 at *
    generalize rightFB s3 l3 s3' l3' = c3 at *
    refine GCalls.of_M TYok (qs := [cB true]) [.tmp 6] 177 Tryz.func5 (by kernel_rfl) rfl rfl rfl fun G hG => ?_
    refine W.initA (hw := ?_)
    repeat' (first
      | ((first | apply U_ | (apply Ug_; exact rfl; exact rfl) | (apply Ugq_; exact rfl; exact rfl) | apply Lex.u | (apply Lex.g; exact rfl; exact rfl) | (apply Lex.gq; exact rfl; exact rfl)); (first
    | exact QX.Move TYok
    | exact QX.Asg TYok
    | exact QX.Fld TYok
    | exact QX.Ld TYok
    | exact QX.Bin TYok
    | exact QX.Pick TYok
    | exact QX.Un TYok
    | exact QX.Ext TYok
    | (apply Q_callGd hG (h0); exact EvD.auto)
    | (apply Q_callG hG (h0); exact EvL.auto; exact rfl)
    | (apply Q_calld (f1); exact EvD.auto)
    | (apply Q_calld (f2); exact EvD.auto)
    | (apply Q_calld (f3); exact EvD.auto)
    | (apply Q_calld (r1); exact EvD.auto)
    | (apply Q_calld (r2); exact EvD.auto)
    | (apply Q_calld (r3); exact EvD.auto)); exact rfl)
      | refine SX.Alloc TYok (h := ?_)
      | refine SX.Store TYok (h := ?_)
      | refine SX.Box TYok (h := ?_)
      | apply RG.nil
      | apply Lex.nil
      | apply Then.n
      | apply Then.r
      | apply Then.x
      | apply InBlock.n
      | apply InBlock.r
      | apply InBlock.hit
      | (apply InBlock.miss; exact rfl)
      | apply W.seq
      | apply W.region
      | apply W.block
      | apply W.skip
      | apply W.ret
      | apply W.exit
      | (apply S_isnil TYok; exact rfl; exact rfl; exact rfl; exact Ev.auto; intro bn hnil)
      | (apply RG.gT; exact rfl; exact rfl; (first | assumption | decide))
      | (apply RG.gF; exact rfl; exact rfl; (first | assumption | decide | (rw [ne_eq, Bool.not_eq_true]; assumption) | (rw [ne_eq, Bool.not_eq_false]; assumption)); exact rfl)
      | (apply W.draw2 (id := 16) [0, 1, 3, 3, 15, 3, 3, 67, 195, 483, 1023, 2047, 4095] [[7], [165], [15, 166], [17, 166], [167, 168, 166], [8, 166], [5, 166], [171, 166], [172, 166], [170, 173, 166], [169, 174, 166], [166, 175], [176]] 13 [(165, 128), (166, 46768052394588893382517914646921056628989841375232), (167, 93536104789177786765035829293842113257979682783232), (168, 93536104789177786765035829293842113257979682881536), (169, 654752733524244507355250805056894792805857779253248), (170, 93536104789177786765035829293842113257979682750720), (171, 93536104789177786765035829293842113257979682750496), (172, 3086691458042866963246182366696789737513329530765312), (173, 6079846811296556139727328904099737361768679378780160), (174, 13562735194430779080930195247607106422407053998817280), (175, 24787067769132113492734494762868160013364615928872960), (176, 47984021756848204610463380427741004101343577250988032), (6, 95780971304118053647396689196894323976171195136475136)] mixed (by kernel_rfl) rfl rfl)
      | (refine W.condA (ht := fun hb => ?_) (hf := fun hb => ?_) <;> (try simp at hb) <;> (try (exfalso; first | exact hw hb | omega))))
    all_goals exact FinM.ret ResM.auto
  obtain ⟨⟨⟨⟨⟨w1, w2⟩, w3⟩, q1⟩, q2⟩, q3⟩ := hw
  rw [w1] at f1
  rw [w2] at f2
  rw [w3] at f3
  rw [q1] at r1
  rw [q2] at r2
  rw [q3] at r3
  obtain ⟨a, oa, rfl, rfl, rfl, rfl⟩ := frac_of q1
  obtain ⟨b, ob, rfl, rfl, rfl, rfl⟩ := frac_of q2
  obtain ⟨c, oc, rfl, rfl, rfl, rfl⟩ := frac_of q3
  simp only [Bool.and_eq_true, decide_eq_true_iff] at w1 w2 w3
  have da : bd a 12 := bd_of (by omega) (by omega)
  have db : bd b 12 := bd_of (by omega) (by omega)
  have dc : bd c 12 := bd_of (by omega) (by omega)
  obtain ⟨dd, kd⟩ := add_bd (k := 24) rfl da (neg_bd db) (by decide)
  rw [← Rat.sub_eq_add_neg] at dd
  obtain ⟨dac, kac⟩ := add_bd (k := 24) rfl da dc (by decide)
  obtain ⟨dbc, kbc⟩ := add_bd (k := 24) rfl db dc (by decide)
  obtain ⟨eac, jac⟩ := mul_bd (k := 24) rfl da dc (by decide)
  obtain ⟨ebc, jbc⟩ := mul_bd (k := 24) rfl db dc (by decide)
  have od := bd_ok dd (by decide)
  have oac := bd_ok dac (by decide)
  have obc := bd_ok dbc (by decide)
  have omac := bd_ok eac (by decide)
  have ombc := bd_ok ebc (by decide)
  have k1 := fcmp_ok a b oa ob
  have k2 := fcmp_ok b a ob oa
  rw [cmpR_swap] at k2
  have e1 := same_ok a b oa ob
  have k3 := fcmp_ok b c ob oc
  have k4 := fcmp_ok a c oa oc
  have p1 := fsub_yes a b oa ob kd
  have t1 := rt _ od
  have p2 := add_yes a c oa oc kac
  have t2 := rt _ oac
  have p3 := add_yes b c ob oc kbc
  have t3 := rt _ obc
  have p4 := fmul_yes a c oa oc jac
  have t4 := rt _ omac
  have p5 := fmul_yes b c ob oc jbc
  have t5 := rt _ ombc
  have k5 := fcmp_ok _ _ oac obc
  rw [cmpR_add] at k5
  have k6 := fcmp_ok _ _ omac ombc
  rw [cmpR_mul] at k6
  have hx := cmpR_cases a b
  have hsub := cmpR_sub a b
  have htr := cmpR_trans (a := a) (b := b) (c := c)
  have hms : -1 ≤ cmpR a b * sgn c.num ∧ cmpR a b * sgn c.num ≤ 1 := by rw [← hsub]; exact mul_sgn _ _
  have hr : -1 ≤ cmpR a b ∧ cmpR a b ≤ 1 := by omega
  have he : (cmpR a b = 0) ↔ a = b := ⟨fun h => by rcases hx with q | q | q <;> first | omega | exact q.2, fun h => by
    rcases hx with q | q | q
    · exfalso; have := q.2; subst h; grind
    · exact q.1
    · exfalso; have := q.2; subst h; grind⟩
  clear hx kd kac kbc jac jbc
  generalize hD : a - b = D at *
  generalize a + c = S1 at *
  generalize b + c = S2 at *
  generalize a * c = M1 at *
  generalize b * c = M2 at *
  generalize cmpR a b = n at *
  generalize cmpR b c = n2 at *
  generalize cmpR a c = n3 at *
  have hbad1 : (¬ (n = 0 ↔ a = b) ∨ n < -1) ∨ 1 < n → False := by
    rintro ((h | h) | h)
    · exact h he
    · omega
    · omega
  have hbad2 : (n ≤ 0 ∧ n2 ≤ 0) ∧ 0 < n3 → False := htr
  refine GCalls.of_M TYok (qs := [cB true]) [.tmp 6] 177 Tryz.func5 (by kernel_rfl) rfl rfl rfl fun G hG => ?_
  refine W.initA (hw := ?_)
  repeat' (first
    | (refine W.purgeR [(4, [3, 4, 5, 7]), (5, [3, 4, 5, 7, 8]), (7, [3, 4, 5, 7, 8]), (9, [3, 4, 5, 7, 8]), (10, [3, 4, 5, 7, 8, 9, 10]), (11, [3, 4, 5, 7, 8, 9, 10, 11, 12]), (12, [3, 4, 5, 7, 8, 9, 10, 11, 12, 13, 14]), (13, [4, 5, 7, 8, 9, 10, 11, 12, 13, 14, 15, 16]), (14, [5, 7, 8, 9, 10, 11, 12, 13, 14, 15, 16, 17, 18]), (16, [5, 7, 8, 15, 17])] rfl (by repeat (first | exact PN.nil | apply PN.po rfl | (apply PN.pa; exact rfl; (repeat (first | (apply NR.cons; exact rfl) | exact NR.nil rfl))) | apply PN.a rfl | apply PN.s rfl | apply PN.u rfl | apply PN.m rfl | apply PN.k rfl | apply PN.i rfl | apply PN.skip)) (by repeat (first | exact PB.nil | (apply PB.one; exact rfl; (focus (first | (dsimp only; done) | (dsimp only; exact rfl) | exact rfl)); (focus (first | (dsimp only; done) | (dsimp only; exact rfl) | exact rfl)); exact rfl; (repeat (first | (apply NR.cons; exact rfl) | exact NR.nil rfl)))  | apply PB.cons rfl)) ?_)
    | ((first | apply U_ | (apply Ug_; exact rfl; exact rfl) | (apply Ugq_; exact rfl; exact rfl) | apply Lex.u | (apply Lex.g; exact rfl; exact rfl) | (apply Lex.gq; exact rfl; exact rfl)); (first
    | exact QX.Move TYok
    | exact QX.Asg TYok
    | exact QX.Fld TYok
    | exact QX.Ld TYok
    | exact QX.Bin TYok
    | exact QX.Pick TYok
    | exact QX.Un TYok
    | exact QX.Ext TYok
    | (apply Q_callGd hG (h0); exact EvD.auto)
    | (apply Q_callG hG (h0); exact EvL.auto; exact rfl)
    | (apply Q_calld (f1); exact EvD.auto)
    | (apply Q_calld (f2); exact EvD.auto)
    | (apply Q_calld (f3); exact EvD.auto)
    | (apply Q_calld (r1); exact EvD.auto)
    | (apply Q_calld (r2); exact EvD.auto)
    | (apply Q_calld (r3); exact EvD.auto)
    | (apply Q_calld (k1); exact EvD.auto)
    | (apply Q_calld (k2); exact EvD.auto)
    | (apply Q_calld (k3); exact EvD.auto)
    | (apply Q_calld (k4); exact EvD.auto)
    | (apply Q_calld (k5); exact EvD.auto)
    | (apply Q_calld (k6); exact EvD.auto)
    | (apply Q_calld (e1); exact EvD.auto)
    | (apply Q_calld (p1); exact EvD.auto)
    | (apply Q_calld (p2); exact EvD.auto)
    | (apply Q_calld (p3); exact EvD.auto)
    | (apply Q_calld (p4); exact EvD.auto)
    | (apply Q_calld (p5); exact EvD.auto)
    | (apply Q_calld (t1); exact EvD.auto)
    | (apply Q_calld (t2); exact EvD.auto)
    | (apply Q_calld (t3); exact EvD.auto)
    | (apply Q_calld (t4); exact EvD.auto)
    | (apply Q_calld (t5); exact EvD.auto)); exact rfl)
    | refine SX.Alloc TYok (h := ?_)
    | refine SX.Store TYok (h := ?_)
    | refine SX.Box TYok (h := ?_)
    | apply RG.nil
    | apply Lex.nil
    | apply Then.n
    | apply Then.r
    | apply Then.x
    | apply InBlock.n
    | apply InBlock.r
    | apply InBlock.hit
    | (apply InBlock.miss; exact rfl)
    | apply W.seq
    | apply W.region
    | apply W.block
    | apply W.skip
    | apply W.ret
    | apply W.exit
    | (apply S_isnil TYok; exact rfl; exact rfl; exact rfl; exact Ev.auto; intro bn hnil)
    | (apply RG.gT; exact rfl; exact rfl; (first | assumption | decide))
    | (apply RG.gF; exact rfl; exact rfl; (first | assumption | decide | (rw [ne_eq, Bool.not_eq_true]; assumption) | (rw [ne_eq, Bool.not_eq_false]; assumption)); exact rfl)
    | (apply W.draw2 (id := 16) [0, 1, 3, 3, 15, 3, 3, 67, 195, 483, 1023, 2047, 4095] [[7], [165], [15, 166], [17, 166], [167, 168, 166], [8, 166], [5, 166], [171, 166], [172, 166], [170, 173, 166], [169, 174, 166], [166, 175], [176]] 13 [(165, 128), (166, 46768052394588893382517914646921056628989841375232), (167, 93536104789177786765035829293842113257979682783232), (168, 93536104789177786765035829293842113257979682881536), (169, 654752733524244507355250805056894792805857779253248), (170, 93536104789177786765035829293842113257979682750720), (171, 93536104789177786765035829293842113257979682750496), (172, 3086691458042866963246182366696789737513329530765312), (173, 6079846811296556139727328904099737361768679378780160), (174, 13562735194430779080930195247607106422407053998817280), (175, 24787067769132113492734494762868160013364615928872960), (176, 47984021756848204610463380427741004101343577250988032), (6, 95780971304118053647396689196894323976171195136475136)] mixed (by kernel_rfl) rfl rfl)
    | (refine W.condA (ht := fun hb => ?_) (hf := fun hb => ?_) <;> (try simp at hb) <;> (try (exfalso; first | exact hbad1 hb | exact hbad2 hb | omega))))
  all_goals first
    | exact FinM.ret ResM.auto
    | (exfalso; exact hbad1 (by assumption))
    | trace_state
end Go.Proofs.YtipghibmgfhmpaaGreatDoor
