/-
  Big integers: the law of the order.
-/
import Derived.Test.YtldgkgfkdipdeaaDoorWalk12
set_option linter.unusedVariables false
set_option linter.unusedSimpArgs false
set_option maxHeartbeats 8000000
namespace Go.Proofs.YtldgkgfkdipdeaaDoor
open Lf Go
attribute [local irreducible] PureOp EffOp Ev RG W Then InBlock Lf.Fin nth App InitE Pick SubE SubF SubG EvL EvD EvP EvR ResL Lf.Lex SubR SubBR RA RAll EvC FinO FinM ResM FinB ResD FinS val pw digs trimL

theorem cmp_cases (x y : Int) : (cmpI x y = -1 ∧ x < y) ∨ (cmpI x y = 0 ∧ x = y) ∨ (cmpI x y = 1 ∧ y < x) := by
  unfold cmpI
  split
  · exact .inl ⟨rfl, ‹_›⟩
  · split
    · exact .inr (.inr ⟨rfl, ‹_›⟩)
    · exact .inr (.inl ⟨rfl, by omega⟩)
theorem cmp_sub (x y : Int) : sgn (x - y) = cmpI x y := by
  have := sgn_cases (x - y)
  have := cmp_cases x y
  omega
theorem cmp_add (x y z : Int) : cmpI (x + z) (y + z) = cmpI x y := by
  have := cmp_cases x y
  have := cmp_cases (x + z) (y + z)
  omega
theorem cmp_swap (x y : Int) : cmpI y x = -cmpI x y := by
  have := cmp_cases x y
  have := cmp_cases y x
  omega
theorem cmp_mul (x y z : Int) : cmpI (x * z) (y * z) = cmpI x y * sgn z := by
  have h1 := cmp_cases x y
  have h2 := cmp_cases (x * z) (y * z)
  have e : x * z - y * z = (x - y) * z := by grind
  rcases sgn_cases z with h | h | h
  · rw [h.1]
    rcases h1 with h1 | h1 | h1
    · have := Int.mul_pos_of_neg_of_neg (show x - y < 0 by omega) h.2.1; omega
    · obtain ⟨h1, rfl⟩ := h1; omega
    · have := Int.mul_neg_of_pos_of_neg (show 0 < x - y by omega) h.2.1; omega
  · have h0 := h.2.1
    subst h0
    rw [h.1]
    simp only [Int.mul_zero] at h2 ⊢
    omega
  · rw [h.1]
    rcases h1 with h1 | h1 | h1
    · have := Int.mul_neg_of_neg_of_pos (show x - y < 0 by omega) h.2.1; omega
    · obtain ⟨h1, rfl⟩ := h1; omega
    · have := Int.mul_pos (show 0 < x - y by omega) h.2.1; omega
theorem mul_lt {x y : Int} {m n k : Nat} (hk : m + n = k) (hx : -pw m < x ∧ x < pw m) (hy : -pw n < y ∧ y < pw n) : -pw k < x * y ∧ x * y < pw k := by
  subst hk
  have h1 := pw_pos m
  have h2 := pw_pos n
  have h : (x * y).natAbs < (pw (m + n)).natAbs := by
    rw [pw_add, Int.natAbs_mul, Int.natAbs_mul]
    exact Nat.mul_lt_mul'' (by omega) (by omega)
  have := pw_pos (m + n)
  omega

set_option maxRecDepth 20000 in
theorem order_ok (s s' s'' : Int) (l l' l'' : List Int) (hl : l.length ≤ 9223372036854775807) (hl' : l'.length ≤ 9223372036854775807) (hl'' : l''.length ≤ 9223372036854775807) : GCalls Tryd.prog 2 powC 7 [aB s l, aB s' l', aB s'' l''] (.pv (cB true)) := by
  have h0 := small_ok
  have f1 := fewB_ok s l 25 hl
  have f2 := fewB_ok s' l' 25 hl'
  have f3 := fewB_ok s'' l'' 25 hl''
  have r1 := rightL_ok s l hl
  have r2 := rightL_ok s' l' hl'
  have r3 := rightL_ok s'' l'' hl''
  by_cases hw : ((l.length ≤ 25 ∧ l'.length ≤ 25) ∧ l''.length ≤ 25) ∧ rightB s l = true ∧ rightB s' l' = true ∧ rightB s'' l'' = true
  case neg =>
    generalize rightB s l = b1 at r1 hw
    generalize rightB s' l' = b2 at r2 hw
    generalize rightB s'' l'' = b3 at r3 hw
    have hw' : (((((l.length ≤ 25) ∧ l'.length ≤ 25) ∧ l''.length ≤ 25) ∧ b1 = true) ∧ b2 = true) ∧ b3 = true → False := fun ⟨⟨⟨q, a⟩, b⟩, c⟩ => hw ⟨q, a, b, c⟩
    have hw2 : ((((((l.length : Int) ≤ 25) ∧ (l'.length : Int) ≤ 25) ∧ (l''.length : Int) ≤ 25) ∧ b1 = true) ∧ b2 = true) ∧ b3 = true → False := fun ⟨⟨⟨⟨⟨p, q⟩, r⟩, a⟩, b⟩, c⟩ => hw ⟨⟨⟨by omega, by omega⟩, by omega⟩, a, b, c⟩
    refine GCalls.of_M TYok (qs := [cB true]) [.tmp 6] 154 Tryd.func7 (by kernel_rfl) rfl rfl rfl fun G hG => ?_
    refine W.initA (hw := ?_)
    repeat' (first
      | (exfalso; first | exact hw' (by assumption) | exact hw2 (by assumption))
      | apply RG.nil
      | apply Lex.nil
      | apply Then.n
      | apply Then.r
      | apply Then.x
      | apply InBlock.n
      | apply InBlock.r
      | apply InBlock.hit
      | (apply InBlock.miss; exact rfl)
      | apply W.seq
      | apply W.region
      | apply W.block
      | apply W.skip
      | apply W.ret
      | apply W.exit
      | (apply W.draw2 (id := 12) [0, 1, 0, 0, 12, 31, 63, 127, 127, 511, 127, 1151, 4095, 8191, 16383, 32767, 65535, 32767, 262143, 524287, 1048575, 2097151, 2097151, 8388607, 2097151, 33554431, 67108863, 134217727, 268435455, 268435455, 1073741823, 268435455, 268435455, 4563402751, 15300820991, 34359738367, 68719476735] [[8], [100], [3], [4], [102, 103], [101, 104], [105], [4, 106], [3, 106], [107, 108, 106], [8, 106], [110, 106], [109, 111, 106], [106, 112], [113], [9, 114], [115, 114], [8, 114], [116, 117, 114], [114, 118], [119], [11, 120], [13, 120], [121, 122, 120], [8, 120], [123, 124, 120], [120, 125], [126], [15, 127], [17, 127], [128, 129, 127], [8, 127], [5, 127], [132, 127], [131, 133, 127], [130, 134, 127], [127, 135]] 37 [(100, 256), (101, 1267650600228229401496703205376), (102, 8), (103, 16), (104, 15211807202738752817960438464512), (105, 22817710804108129226940657696768), (106, 40564819207303340847894502572032), (107, 81129638414606681695789005144080), (108, 81129638414606681695789005144072), (109, 567907468902246771870523036008448), (110, 81129638414606681695789005144320), (111, 1379203853048313588828413087449088), (112, 3326315174998873949527349210906624), (113, 5273426496949434310226285334364160), (114, 10384593717069655257060992658440192), (115, 20769187434139310514121985316880896), (116, 62307562302417931542365955950641152), (117, 20769187434139310514121985316880640), (118, 269999436643811036683585809119444992), (119, 353076186380368278740073750386966528), (120, 664613997892457936451903530140172288), (121, 1329227995784915872903807060280346624), (122, 1329227995784915872903807060280352768), (123, 9304595970494411110326649421962412032), (124, 1329227995784915872903807060280344832), (125, 33230699894622896822595176507008614400), (126, 43864523860902223805825632989251371008), (127, 85070591730234615865843651857942052864), (128, 170141183460469231731687303715884138496), (129, 170141183460469231731687303715884236800), (130, 1190988284223284622121811126011188740096), (131, 170141183460469231731687303715884105984), (132, 170141183460469231731687303715884105760), (133, 5614659054195484647145681022624175489024), (134, 13781435860298007770266671600986612563968), (135, 23309342134084284747241160609076122484736), (136, 43726284149340592555043637054982215172096)] mixed (by kernel_rfl) rfl rfl)
      | ((first | apply U_ | (apply Ug_; exact rfl; exact rfl) | (apply Ugq_; exact rfl; exact rfl) | apply Lex.u | (apply Lex.g; exact rfl; exact rfl) | (apply Lex.gq; exact rfl; exact rfl)); (first
    | exact QX.Move TYok
    | exact QX.Asg TYok
    | exact QX.Fld TYok
    | exact QX.Ld TYok
    | exact QX.Bin TYok
    | exact QX.Pick TYok
    | exact QX.Un TYok
    | exact QX.Ext TYok
    | (apply Q_callGd hG (h0); exact EvD.auto)
    | (apply Q_callG hG (h0); exact EvL.auto; exact rfl)
    | (apply Q_calld (f1); exact EvD.auto)
    | (apply Q_calld (f2); exact EvD.auto)
    | (apply Q_calld (f3); exact EvD.auto)
    | (apply Q_calld (r1); exact EvD.auto)
    | (apply Q_calld (r2); exact EvD.auto)
    | (apply Q_calld (r3); exact EvD.auto)); exact rfl)
      | refine SX.Alloc TYok (h := ?_)
      | refine SX.Store TYok (h := ?_)
      | refine SX.Box TYok (h := ?_)
      | (apply S_isnil TYok; exact rfl; exact rfl; exact rfl; exact Ev.auto; intro bn hnil)
      | (apply RG.gT; exact rfl; exact rfl; (first | assumption | decide))
      | (apply RG.gF; exact rfl; exact rfl; (first | assumption | decide | (rw [ne_eq, Bool.not_eq_true]; assumption) | (rw [ne_eq, Bool.not_eq_false]; assumption)); exact rfl)
      | (refine W.condA (ht := fun hb => ?_) (hf := fun hb => ?_) <;> (try simp at hb) <;> (try (exfalso; omega))))
    all_goals exact FinM.ret ResM.auto
  obtain ⟨⟨⟨w1, w2⟩, w3⟩, q1, q2, q3⟩ := hw
  rw [q1] at r1
  rw [q2] at r2
  rw [q3] at r3
  obtain ⟨x, ox, rfl, rfl⟩ := right_num q1
  obtain ⟨y, oy, rfl, rfl⟩ := right_num q2
  obtain ⟨z, oz, rfl, rfl⟩ := right_num q3
  have b1 := lt40 w1
  have b2 := lt40 w2
  have b3 := lt40 w3
  have c1 := cmp_cases x y
  have cz := sgn_cases z
  have h26 : pw 26 = 1048576 * pw 25 := by rw [pw_succ]
  have h50 := pw_lt (show 50 < 60 by omega)
  have h26' := pw_mono (show 26 ≤ 60 by omega)
  have od : okZ (x - y) := okZ.of (by omega)
  have oxz : okZ (x + z) := okZ.of (by omega)
  have oyz : okZ (y + z) := okZ.of (by omega)
  have m1 := mul_lt (k := 50) rfl b1 b3
  have m2 := mul_lt (k := 50) rfl b2 b3
  have pxz : okZ (x * z) := okZ.of (by omega)
  have pyz : okZ (y * z) := okZ.of (by omega)
  have k1 := cmpZ_ok x y ox oy
  have d1 := subZ_ok x y ox oy
  rw [(full_yes od).1, (full_yes od).2] at d1
  have a1 := addZ_ok x z ox oz
  rw [(full_yes oxz).1, (full_yes oxz).2] at a1
  have a2 := addZ_ok y z oy oz
  rw [(full_yes oyz).1, (full_yes oyz).2] at a2
  have p1 := mulZ_ok x z ox oz
  rw [(full_yes pxz).1, (full_yes pxz).2] at p1
  have p2 := mulZ_ok y z oy oz
  rw [(full_yes pyz).1, (full_yes pyz).2] at p2
  have e1 := sameZ_ok x y ox oy
  have k2 := cmpZ_ok y x oy ox
  rw [cmp_swap] at k2
  have k3 := cmpZ_ok (x + z) (y + z) oxz oyz
  rw [cmp_add] at k3
  have k4 := cmpZ_ok (x * z) (y * z) pxz pyz
  rw [cmp_mul] at k4
  have k5 := cmpZ_ok y z oy oz
  have k6 := cmpZ_ok x z ox oz
  have c5 := cmp_cases y z
  have c6 := cmp_cases x z
  have hsg := cmp_sub x y
  have hms : -1 ≤ cmpI x y * sgn z ∧ cmpI x y * sgn z ≤ 1 := by rw [← hsg]; exact mul_sgn _ _
  refine GCalls.of_M TYok (qs := [cB true]) [.tmp 6] 154 Tryd.func7 (by kernel_rfl) rfl rfl rfl fun G hG => ?_
  refine W.initA (hw := ?_)
  repeat' (first
    | apply RG.nil
    | apply Lex.nil
    | apply Then.n
    | apply Then.r
    | apply Then.x
    | apply InBlock.n
    | apply InBlock.r
    | apply InBlock.hit
    | (apply InBlock.miss; exact rfl)
    | apply W.seq
    | apply W.region
    | apply W.block
    | apply W.skip
    | apply W.ret
    | apply W.exit
    | (apply W.draw2 (id := 12) [0, 1, 0, 0, 12, 31, 63, 127, 127, 511, 127, 1151, 4095, 8191, 16383, 32767, 65535, 32767, 262143, 524287, 1048575, 2097151, 2097151, 8388607, 2097151, 33554431, 67108863, 134217727, 268435455, 268435455, 1073741823, 268435455, 268435455, 4563402751, 15300820991, 34359738367, 68719476735] [[8], [100], [3], [4], [102, 103], [101, 104], [105], [4, 106], [3, 106], [107, 108, 106], [8, 106], [110, 106], [109, 111, 106], [106, 112], [113], [9, 114], [115, 114], [8, 114], [116, 117, 114], [114, 118], [119], [11, 120], [13, 120], [121, 122, 120], [8, 120], [123, 124, 120], [120, 125], [126], [15, 127], [17, 127], [128, 129, 127], [8, 127], [5, 127], [132, 127], [131, 133, 127], [130, 134, 127], [127, 135]] 37 [(100, 256), (101, 1267650600228229401496703205376), (102, 8), (103, 16), (104, 15211807202738752817960438464512), (105, 22817710804108129226940657696768), (106, 40564819207303340847894502572032), (107, 81129638414606681695789005144080), (108, 81129638414606681695789005144072), (109, 567907468902246771870523036008448), (110, 81129638414606681695789005144320), (111, 1379203853048313588828413087449088), (112, 3326315174998873949527349210906624), (113, 5273426496949434310226285334364160), (114, 10384593717069655257060992658440192), (115, 20769187434139310514121985316880896), (116, 62307562302417931542365955950641152), (117, 20769187434139310514121985316880640), (118, 269999436643811036683585809119444992), (119, 353076186380368278740073750386966528), (120, 664613997892457936451903530140172288), (121, 1329227995784915872903807060280346624), (122, 1329227995784915872903807060280352768), (123, 9304595970494411110326649421962412032), (124, 1329227995784915872903807060280344832), (125, 33230699894622896822595176507008614400), (126, 43864523860902223805825632989251371008), (127, 85070591730234615865843651857942052864), (128, 170141183460469231731687303715884138496), (129, 170141183460469231731687303715884236800), (130, 1190988284223284622121811126011188740096), (131, 170141183460469231731687303715884105984), (132, 170141183460469231731687303715884105760), (133, 5614659054195484647145681022624175489024), (134, 13781435860298007770266671600986612563968), (135, 23309342134084284747241160609076122484736), (136, 43726284149340592555043637054982215172096)] mixed (by kernel_rfl) rfl rfl)
    | ((first | apply U_ | (apply Ug_; exact rfl; exact rfl) | (apply Ugq_; exact rfl; exact rfl) | apply Lex.u | (apply Lex.g; exact rfl; exact rfl) | (apply Lex.gq; exact rfl; exact rfl)); (first
    | exact QX.Move TYok
    | exact QX.Asg TYok
    | exact QX.Fld TYok
    | exact QX.Ld TYok
    | exact QX.Bin TYok
    | exact QX.Pick TYok
    | exact QX.Un TYok
    | exact QX.Ext TYok
    | (apply Q_callGd hG (h0); exact EvD.auto)
    | (apply Q_callG hG (h0); exact EvL.auto; exact rfl)
    | (apply Q_calld (f1); exact EvD.auto)
    | (apply Q_calld (f2); exact EvD.auto)
    | (apply Q_calld (f3); exact EvD.auto)
    | (apply Q_calld (r1); exact EvD.auto)
    | (apply Q_calld (r2); exact EvD.auto)
    | (apply Q_calld (r3); exact EvD.auto)
    | (apply Q_calld (k1); exact EvD.auto)
    | (apply Q_calld (d1); exact EvD.auto)
    | (apply Q_calld (a1); exact EvD.auto)
    | (apply Q_calld (a2); exact EvD.auto)
    | (apply Q_calld (p1); exact EvD.auto)
    | (apply Q_calld (p2); exact EvD.auto)
    | (apply Q_calld (e1); exact EvD.auto)
    | (apply Q_calld (k2); exact EvD.auto)
    | (apply Q_calld (k3); exact EvD.auto)
    | (apply Q_calld (k4); exact EvD.auto)
    | (apply Q_calld (k5); exact EvD.auto)
    | (apply Q_calld (k6); exact EvD.auto)); exact rfl)
    | refine SX.Alloc TYok (h := ?_)
    | refine SX.Store TYok (h := ?_)
    | refine SX.Box TYok (h := ?_)
    | (apply S_isnil TYok; exact rfl; exact rfl; exact rfl; exact Ev.auto; intro bn hnil)
    | (apply RG.gT; exact rfl; exact rfl; (first | assumption | decide))
    | (apply RG.gF; exact rfl; exact rfl; (first | assumption | decide | (rw [ne_eq, Bool.not_eq_true]; assumption) | (rw [ne_eq, Bool.not_eq_false]; assumption)); exact rfl)
    | (refine W.condA (ht := fun hb => ?_) (hf := fun hb => ?_) <;> (try simp at hb) <;> (try (exfalso; omega))))
  all_goals first
    | exact FinM.ret (ResM.tmp rfl rfl (PSub.of_eq (congrArg (fun b => PV.one (Cell.bool b)) (by simp only [Bool.and_eq_true, Bool.or_eq_true, decide_eq_true_iff, true_and]; omega))) ResM.nil)
    | exact FinM.ret ResM.auto
    | (exfalso; omega)
    | trace_state
end Go.Proofs.YtldgkgfkdipdeaaDoor
