/-
  EvalLazy: the row: what came in is read, the contract of the function gives true, and what came in stands.
-/
import Derived.Test.YtjedkgogjehigaaLS12
import Derived.Test.YtjedkgogjehigaaLS10
import Derived.Test.YtjedkgogjehigaaLS11
section
set_option linter.unusedVariables false
set_option linter.unusedSimpArgs false
set_option maxHeartbeats 8000000
set_option linter.unusedSectionVars false
namespace Go.Proofs.Ytjedkgogjehigaa
open Lf Go
attribute [local irreducible] PureOp EffOp Ev RG W Then InBlock Lf.Fin nth App InitE Pick SubE EvL EvD EvP EvR ResL Lf.Lex SubR SubBR EvC FinO FinM ResM ResD FinS val pw digs trimL
section
variable {lets : List Let} {v : EnvV}
abbrev kZz : Str := [122, 122]
def zzL : Let := ⟨kZz, .mk 0 7 0 [] []⟩
abbrev yV (c : Cell) : PV := .agg [.str [], .str [], .int .i64 0, .int .i64 0, .int .i64 0, .int .i64 0, .int .i64 0, .int .i64 0, .int .i64 0, .int .i64 0, c, .int .i64 0, .int .i64 0, .int .i64 0, .str [], .slnil, .int .i64 0, .slnil, .slnil, .int .i64 0, .slnil, .int .i64 0, .int .i64 0, .int .i64 0, .int .i64 0]
attribute [local irreducible] sgn mag gcdZ quoZ remZ fullZ fullE
theorem lazy_walk (hlen : lets.length ≤ 3) (N : List Str) (V : List Fq) (I : List Str) (R : List Fq) (q : Fq) (l8 : lens8 ⟨N, V, I, R⟩) (c a b e1 e2 : Exp) (f2 f3 f4 : Bool) (x1 c2 c3 c4 ca cb c6 : Int) (wp wq wr wa wb w6 : PV) (x2 : List Int) (x3 : Int) (x4 : List Int) (ba bb bq br bs rt n1 n2 n3 n4 : Bool)
    (h1 : ACalls Try.prog 7 [xV lets, aE c, vV ⟨N, V, I, R⟩] (.pv (cB true))) (h2 : ACalls Try.prog 13 [aE a, cI 15] (.pv (cB f2))) (h3 : ACalls Try.prog 13 [aE b, cI 15] (.pv (cB f3))) (h4 : ACalls Try.prog 14 [fqV q, cI 3] (.pv (cB f4)))
    (m1 : ACalls Try.prog 15 [cI 13, aE c, aE a] (.pv (aE e1))) (m2 : ACalls Try.prog 15 [cI 14, aE c, aE a] (.pv (aE e2)))
    (he : ACalls Try.prog 9 [vV ⟨N, V, I, R⟩] (.pv (vV ⟨N, V, I, R⟩)))
    (vc : ACalls Try.prog 8 [xV lets, aE c, vV ⟨N, V, I, R⟩] (.tup [.agg [.int .i64 x1, .sl (x2.map Lf.encI), .int .i64 x3, .sl (x4.map Lf.encI)], cI 0]))
    (v2 : ACalls Try.prog 8 [xV lets, .agg [.int .i64 15, .int .i64 0, .int .i64 0, .str [], .sl [encX c, encX a, encX b]], vV ⟨N, V, I, R⟩] (.tup [wp, cI c2]))
    (v3 : ACalls Try.prog 8 [xV lets, aE e1, vV ⟨N, V, I, R⟩] (.tup [wq, cI c3])) (v4 : ACalls Try.prog 8 [xV lets, aE e2, vV ⟨N, V, I, R⟩] (.tup [wr, cI c4]))
    (va : ACalls Try.prog 8 [xV lets, aE a, vV ⟨N, V, I, R⟩] (.tup [wa, cI ca])) (vb : ACalls Try.prog 8 [xV lets, aE b, vV ⟨N, V, I, R⟩] (.tup [wb, cI cb]))
    (sa : ACalls Try.prog 12 [wa, wp] (.pv (cB ba))) (sb : ACalls Try.prog 12 [wb, wp] (.pv (cB bb)))
    (o0 : ACalls Try.prog 16 [cI 0, cI 1] (.pv (fB 0 [] 1 [1]))) (o1 : ACalls Try.prog 16 [cI 1, cI 1] (.pv (fB 1 [1] 1 [1])))
    (sq : ACalls Try.prog 12 [wq, fB 0 [] 1 [1]] (.pv (cB bq))) (sr : ACalls Try.prog 12 [wr, fB 1 [1] 1 [1]] (.pv (cB br)))
    (hr : ACalls Try.prog 17 [fqV q] (.pv (cB rt)))
    (hw : ACalls Try.prog 9 [.agg [.sl (N.map encS ++ [[.str kZz]]), .sl (V.map encF ++ [encF q]), .sl (I.map encS ++ [[.str kZz]]), .sl (R.map encF ++ [encF q])]] (.pv (.agg [.sl (N.map encS ++ [[.str kZz]]), .sl (V.map encF ++ [encF q]), .sl (I.map encS ++ [[.str kZz]]), .sl (R.map encF ++ [encF q])])))
    (g1 : ACalls Try.prog 18 [aE c, cS kZz] (.pv (cB n1))) (g2 : ACalls Try.prog 18 [aE a, cS kZz] (.pv (cB n2))) (g3 : ACalls Try.prog 18 [aE b, cS kZz] (.pv (cB n3))) (g4 : ACalls Try.prog 19 [slL lets, cS kZz] (.pv (cB n4)))
    (v6 : ACalls Try.prog 8 [yV (.sl (lets.map encL ++ [[.str kZz, .int .i64 0, .int .i64 7, .int .i64 0, .str [], .sl []]])), .agg [.int .i64 15, .int .i64 0, .int .i64 0, .str [], .sl [encX c, encX a, encX b]], .agg [.sl (N.map encS ++ [[.str kZz]]), .sl (V.map encF ++ [encF q]), .sl (I.map encS ++ [[.str kZz]]), .sl (R.map encF ++ [encF q])]] (.tup [w6, cI c6]))
    (s6 : ACalls Try.prog 12 [w6, wp] (.pv (cB bs)))
    (hwp : ∃ y1 y2 y3 y4, wp = .agg [.int .i64 y1, .sl y2, .int .i64 y3, .sl y4]) (hwq : ∃ y1 y2 y3 y4, wq = .agg [.int .i64 y1, .sl y2, .int .i64 y3, .sl y4]) (hwr : ∃ y1 y2 y3 y4, wr = .agg [.int .i64 y1, .sl y2, .int .i64 y3, .sl y4])
    (hwa : ∃ y1 y2 y3 y4, wa = .agg [.int .i64 y1, .sl y2, .int .i64 y3, .sl y4]) (hwb : ∃ y1 y2 y3 y4, wb = .agg [.int .i64 y1, .sl y2, .int .i64 y3, .sl y4]) (hw6 : ∃ y1 y2 y3 y4, w6 = .agg [.int .i64 y1, .sl y2, .int .i64 y3, .sl y4])
    (ky : ¬ x1 = 0 → ca = c2 ∧ ba = true ∧ c4 = 0 ∧ br = true) (kn : x1 = 0 → cb = c2 ∧ bb = true ∧ c3 = 0 ∧ bq = true) (k6 : rt = true → lets.length < 20 → n1 = false → n2 = false → n3 = false → n4 = false → c6 = c2 ∧ bs = true) :
    ACalls Try.prog 4 [slL lets, aE c, aE a, aE b, vV ⟨N, V, I, R⟩, fqV q] (.pv (cB true)) := by
  have h0 := small_ok
  unfold lens8 at l8
  simp only at l8
  obtain ⟨q1, q2, q3, q4⟩ := q
  obtain ⟨_, _, _, _, rfl⟩ := hwp
  obtain ⟨_, _, _, _, rfl⟩ := hwq
  obtain ⟨_, _, _, _, rfl⟩ := hwr
  obtain ⟨_, _, _, _, rfl⟩ := hwa
  obtain ⟨_, _, _, _, rfl⟩ := hwb
  obtain ⟨_, _, _, _, rfl⟩ := hw6
  have sp : ∀ e : Exp, ∃ (a b c : Int) (s : Str) (l : List (List Cell)), encX e = [.int .i64 a, .int .i64 b, .int .i64 c, .str s, .sl l] := fun e => ⟨_, _, _, _, _, rfl⟩
  obtain ⟨_, _, _, _, _, q⟩ := sp c
  rw [show aE c = .agg (encX c) from rfl, q] at h1 m1 m2 vc g1 ⊢
  rw [q] at v2 v6
  clear q
  obtain ⟨_, _, _, _, _, q⟩ := sp a
  rw [show aE a = .agg (encX a) from rfl, q] at h2 m1 m2 va g2 ⊢
  rw [q] at v2 v6
  clear q
  obtain ⟨_, _, _, _, _, q⟩ := sp b
  rw [show aE b = .agg (encX b) from rfl, q] at h3 vb g3 ⊢
  rw [q] at v2 v6
  clear q
  obtain ⟨_, _, _, _, _, q⟩ := sp e1
  rw [show aE e1 = .agg (encX e1) from rfl, q] at m1 v3
  clear q
  obtain ⟨_, _, _, _, _, q⟩ := sp e2
  rw [show aE e2 = .agg (encX e2) from rfl, q] at m2 v4
  clear q sp
  refine ACalls.of_W (qs := [cB true]) [12] 259 Try.func4 (by kernel_rfl) rfl rfl rfl fun G => ?_
  refine W.initA (hw := ?_)
  repeat' (first | (refine W.weaken (Le.freeze1 (m := 10) rfl) ?_) | (refine W.weaken (Le.freeze1 (m := 11) rfl) ?_) | (refine RG.weaken (Le.freeze1 (m := 224) rfl) ?_) | (refine W.purgeR [(8, [0, 7, 8, 9, 10, 11, 13, 14, 15, 16, 17]), (12, [0, 7, 8, 9, 10, 11, 13, 14, 15, 18, 19, 20, 21, 22, 23, 24, 25]), (16, [0, 7, 8, 9, 10, 11, 13, 14, 15, 18, 20, 21, 22, 23, 24, 25]), (20, [0, 7, 8, 9, 10, 11, 13, 14, 15, 20, 21, 22, 23, 24, 25, 26, 27]), (23, [0, 7, 8, 9, 10, 11, 13, 15, 20, 21]), (25, [0, 7, 8, 9, 10, 11, 13, 15, 20, 21]), (26, [0, 7, 8, 9, 13, 15, 20, 21, 30]), (27, [0, 7, 8, 9, 13, 15, 20, 21, 30, 31])] rfl (by repeat (first | exact PN.nil | apply PN.po rfl | (apply PN.pa; exact rfl; (repeat (first | (apply NR.cons; exact rfl) | exact NR.nil rfl))) | apply PN.a rfl | apply PN.s rfl | apply PN.u rfl | apply PN.m rfl | apply PN.k rfl | apply PN.i rfl | apply PN.skip)) (by repeat (first | exact PB.nil | (apply PB.one; exact rfl; (focus (first | (dsimp only; done) | (dsimp only; exact rfl) | exact rfl)); (focus (first | (dsimp only; done) | (dsimp only; exact rfl) | exact rfl)); exact rfl; (repeat (first | (apply NR.cons; exact rfl) | exact NR.nil rfl)))  | apply PB.cons rfl)) ?_) | ((first | apply U_ | (apply Ug_; exact rfl; exact rfl) | (apply Ugq_; exact rfl; exact rfl) | apply Lex.u | (apply Lex.g; exact rfl; exact rfl) | (apply Lex.gq; exact rfl; exact rfl)); (first | (apply Q_leaf; exact QX.Build TYok) | (apply Q_litD TYok; apply EvR.cons Ev.auto; (repeat (first | exact EvR.nil | apply EvR.cons Ev.auto)); exact rfl; exact rfl; exact rfl; exact rfl; exact rfl; exact rfl) | exact QX.B TYok | exact QX.Len TYok | exact QX.Ext TYok | exact QX.Build TYok | exact QCd (h0) | exact QCd (h1) | exact QCd (h2) | exact QCd (h3) | exact QCd (h4) | exact QCd (m1) | exact QCd (m2) | exact QCd (he) | exact QCd (vc) | exact QCd (v2) | exact QCd (v3) | exact QCd (v4) | exact QCd (va) | exact QCd (vb) | exact QCd (sa) | exact QCd (sb) | exact QCd (o0) | exact QCd (o1) | exact QCd (sq) | exact QCd (sr) | exact QCd (hr) | exact QCd (hw) | exact QCd (g1) | exact QCd (g2) | exact QCd (g3) | exact QCd (g4) | exact QCd (v6) | exact QCd (s6)); exact rfl) | refine SX.Alloc TYok (h := ?_) | refine SX.Store TYok (h := ?_) | refine SX.Lit TYok (h := ?_) | refine SX.App TYok (h := ?_) | refine SX.Box TYok (h := ?_) | (apply S_appendd TYok; exact Ev.auto; exact Ev.auto; exact rfl; exact rfl; exact rfl; exact rfl; exact rfl; exact rfl; exact rfl; exact rfl; (intro r hr; first | (obtain ⟨_, _, rfl⟩ := List.mem_map.1 hr; rfl) | (obtain rfl := List.mem_singleton.1 hr; rfl)); (constructor <;> simp <;> omega); exact rfl) | refine SC ?_ | (apply S_isnil TYok; exact rfl; exact rfl; exact rfl; exact Ev.auto; intro bn hnil) | (apply RG.gT; exact rfl; exact rfl; (first | assumption | decide)) | (apply RG.gF; exact rfl; exact rfl; (first | assumption | decide | (rw [ne_eq, Bool.not_eq_true]; assumption) | (rw [ne_eq, Bool.not_eq_false]; assumption)); exact rfl) | apply LexS.nil | (apply LexS.f; exact rfl; (first | (apply FreshV.alloc TYok; exact rfl; exact rfl; exact rfl; exact rfl) | (apply FreshV.lit TYok; (repeat (first | exact EvR.nil | apply EvR.cons Ev.auto)); exact rfl; exact rfl; exact rfl; exact rfl; exact rfl; exact rfl; exact rfl; exact rfl; exact rfl) | (apply FreshV.box; exact Ev.auto; exact rfl; exact rfl; exact rfl)); exact rfl; exact rfl; exact rfl) | (apply LexS.s; exact rfl; exact rfl; (apply StoreV.mk TYok; exact Ev.auto; exact Ev.auto; exact rfl; exact rfl; exact rfl; exact rfl; exact rfl)) | ((first | apply LexS.u | (apply LexS.g; exact rfl; exact rfl) | (apply LexS.gq; exact rfl; exact rfl)); (repeat (first | (apply NB.cons; exact rfl) | exact NB.nil rfl)); (first | (apply Q_leaf; exact QX.Build TYok) | (apply Q_litD TYok; apply EvR.cons Ev.auto; (repeat (first | exact EvR.nil | apply EvR.cons Ev.auto)); exact rfl; exact rfl; exact rfl; exact rfl; exact rfl; exact rfl) | exact QX.B TYok | exact QX.Len TYok | exact QX.Ext TYok | exact QX.Build TYok | exact QCd (h0) | exact QCd (h1) | exact QCd (h2) | exact QCd (h3) | exact QCd (h4) | exact QCd (m1) | exact QCd (m2) | exact QCd (he) | exact QCd (vc) | exact QCd (v2) | exact QCd (v3) | exact QCd (v4) | exact QCd (va) | exact QCd (vb) | exact QCd (sa) | exact QCd (sb) | exact QCd (o0) | exact QCd (o1) | exact QCd (sq) | exact QCd (sr) | exact QCd (hr) | exact QCd (hw) | exact QCd (g1) | exact QCd (g2) | exact QCd (g3) | exact QCd (g4) | exact QCd (v6) | exact QCd (s6)); exact rfl; exact rfl; exact rfl) | (apply W.draw2 (id := 21) [0, 0, 3, 7, 15, 15, 63, 127, 255, 511, 1023, 2047, 4095, 8191, 16383, 32767, 65535, 65535, 262143, 524287, 1048575, 2097151, 4194303, 8388607, 16777215, 33554431, 67108863, 134217727, 268435455, 536870911, 536870911, 2147483647, 4294967295, 8589934591, 17179869183, 34359738367] [[29], [21], [145, 146], [147], [28, 148], [20, 148], [149, 150, 148], [151, 148], [148, 152], [153], [26, 154], [155, 154], [156, 154], [23, 157], [158, 157], [159, 157], [22, 160], [160], [161, 162, 160], [163, 160], [160, 164, 157], [157, 165, 154], [154, 166], [167], [26, 168], [169, 168], [25, 170], [171, 170], [172, 170], [24, 173], [173], [174, 175, 173], [176, 173], [173, 177, 170], [170, 178, 168], [168, 179]] 36 [(145, 536870912), (146, 2097152), (147, 133804471191183738849214309635890169035882496), (148, 178405961588244985132285746181186892047843328), (149, 356811923176489970264571492362373784364122112), (150, 356811923176489970264571492362373784096735232), (151, 2497683462235429791852000446536616488669806592), (152, 3211307308588409732381143431261364056861179904), (153, 6065802694000329494497715370160354329626673152), (154, 11417981541647679048466287755595961091061972992), (155, 22835963083295358096932575511191922182191054848), (156, 68507889249886074290797726533575766546371837952), (157, 114179815416476790484662877555959610910619729920), (158, 182687704666362864775460604089535377456999956480), (159, 548063113999088594326381812268606132370974703616), (160, 913438523331814323877303020447676887284957839360), (161, 1461501637330902918203684832716283019655936737280), (162, 1461501637330902918203684832716283019655932542976), (163, 10230511461316320427425793829013981137591527800832), (164, 13153514735978126263833163494446547176903392886784), (165, 25028215539291712474238102760266346711607844798464), (166, 46973576062338551605390307826521783928628956889088), (167, 93558940752261082123132761869353305180161806696448), (168, 187072209578355573530071658587684226515959365500928), (169, 374144419156711147060143317175368453031918798110720), (170, 1122433257470133441180429951526105359095756193005568), (171, 1496577676626844588240573268701473812127674957561856), (172, 4489733029880533764721719806104421436383024772022272), (173, 7482888383134222941202866343507369060638374620037120), (174, 11972621413014756705924586149611790497021399408836608), (175, 11972621413014756705924586149611790497021399392059392), (176, 83808349891103296941472103047282533479149795744415744), (177, 107753592717132810353321275346506114473192594528534528), (178, 205031141697877708588958537812101912261491464589017088), (179, 384994607312255770324887473373454138169844374200909824), (180, 766621914852101140326233656892329960262401479822802944)] mixed (by kernel_rfl) rfl rfl) | (refine W.drawS (id := 8) [0, 0, 0, 4, 15, 31, 63, 63, 0, 383, 1023] [[14], [7], [10], [72], [70, 71, 73], [74], [69], [69], [], [18, 75], [76]] [(9, (18, ?_)), (8, (18, ?_))] [(9, 18), (8, 18)] mixed (by kernel_rfl) rfl ?_; rotate_left 2) | (refine W.drawS (id := 9) [0, 0, 0, 4, 15, 31, 63, 63, 0, 383, 1023] [[14], [15], [10], [80], [78, 79, 81], [82], [77], [77], [], [20, 83], [84]] [(9, (20, ?_)), (8, (20, ?_))] [(9, 20), (8, 20)] mixed (by kernel_rfl) rfl ?_; rotate_left 2) | (refine W.drawS (id := 10) [0, 0, 0, 4, 15, 31, 63, 63, 0, 383, 1023] [[14], [16], [10], [88], [86, 87, 89], [90], [85], [85], [], [22, 91], [92]] [(9, (22, ?_)), (8, (22, ?_))] [(9, 22), (8, 22)] mixed (by kernel_rfl) rfl ?_; rotate_left 2) | (refine W.drawS (id := 11) [0, 0, 0, 4, 15, 31, 63, 63, 0, 383, 1023] [[14], [17], [10], [96], [94, 95, 97], [98], [93], [93], [], [24, 99], [100]] [(9, (24, ?_)), (8, (24, ?_))] [(9, 24), (8, 24)] mixed (by kernel_rfl) rfl ?_; rotate_left 2) | (refine W.drawS (id := 20) [0, 0, 0, 4, 15, 31, 63, 63, 0, 383, 1023] [[14], [27], [10], [140], [138, 139, 141], [142], [137], [137], [], [28, 143], [144]] [(9, (28, ?_)), (8, (28, ?_))] [(9, 28), (8, 28)] mixed (by kernel_rfl) rfl ?_; rotate_left 2) | (refine W.drawC (id := 25) [0, 0, 2, 7, 0, 31, 0, 0, 128, 511, 0, 1024, 4095, 0, 0, 16384, 65535, 0, 262143, 0, 0, 1048576, 4194303, 0, 8388608, 33554431, 67108863, 134217727, 0, 536870911] [[], [10], [191], [190, 192], [], [193, 194], [], [10], [197], [196, 198], [11], [200], [199, 201], [], [10], [204], [203, 205], [], [206, 207], [], [10], [210], [209, 211], [11], [213], [212, 214], [195, 202, 208, 215], [216], [], [30, 217]] [(190, true), (191, false), (192, false), (194, false), (196, true), (197, false), (198, false), (200, false), (201, false), (203, true), (204, false), (205, false), (207, false), (209, true), (210, false), (211, false), (213, false), (214, false), (30, true)] [193, 195, 199, 202, 206, 208, 212, 215, 216, 217] mixed (by kernel_rfl) ?_) | apply LexC.nil | (apply LexC.f; (intro G1; first | (apply FreshV.alloc TYok; exact rfl; exact rfl; exact rfl; exact rfl) | (apply FreshV.lit TYok; (repeat (first | exact EvR.nil | apply EvR.cons Ev.auto)); exact rfl; exact rfl; exact rfl; exact rfl; exact rfl; exact rfl; exact rfl; exact rfl; exact rfl) | (apply FreshV.box; exact Ev.auto; exact rfl; exact rfl; exact rfl)); (first | exact .inl rfl | exact .inr rfl); exact rfl; exact rfl; exact rfl) | (apply LexC.p; (intro G1; (first | (apply Q_leaf; exact QX.Build TYok) | (apply Q_litD TYok; apply EvR.cons Ev.auto; (repeat (first | exact EvR.nil | apply EvR.cons Ev.auto)); exact rfl; exact rfl; exact rfl; exact rfl; exact rfl; exact rfl) | exact QX.B TYok | exact QX.Len TYok | exact QX.Ext TYok | exact QX.Build TYok | exact QCd (h0) | exact QCd (h1) | exact QCd (h2) | exact QCd (h3) | exact QCd (h4) | exact QCd (m1) | exact QCd (m2) | exact QCd (he) | exact QCd (vc) | exact QCd (v2) | exact QCd (v3) | exact QCd (v4) | exact QCd (va) | exact QCd (vb) | exact QCd (sa) | exact QCd (sb) | exact QCd (o0) | exact QCd (o1) | exact QCd (sq) | exact QCd (sr) | exact QCd (hr) | exact QCd (hw) | exact QCd (g1) | exact QCd (g2) | exact QCd (g3) | exact QCd (g4) | exact QCd (v6) | exact QCd (s6))); exact rfl; exact rfl; exact rfl) | (apply LexC.ad TYok (d := 195); exact Ev.auto; exact Ev.auto; exact rfl; exact rfl; exact rfl; exact rfl; exact rfl; exact rfl; exact rfl; exact rfl; (intro r hr; first | (obtain ⟨_, _, rfl⟩ := List.mem_map.1 hr; rfl) | (obtain rfl := List.mem_singleton.1 hr; rfl)); (constructor <;> simp <;> omega); exact rfl; kernel_rfl; exact rfl; exact rfl; exact rfl; (repeat (first | exact FG.nil | (apply FG.keep; exact rfl; exact rfl) | (apply FG.gone; exact rfl)))) | (apply LexC.ad TYok (d := 202); exact Ev.auto; exact Ev.auto; exact rfl; exact rfl; exact rfl; exact rfl; exact rfl; exact rfl; exact rfl; exact rfl; (intro r hr; first | (obtain ⟨_, _, rfl⟩ := List.mem_map.1 hr; rfl) | (obtain rfl := List.mem_singleton.1 hr; rfl)); (constructor <;> simp <;> omega); exact rfl; kernel_rfl; exact rfl; exact rfl; exact rfl; (repeat (first | exact FG.nil | (apply FG.keep; exact rfl; exact rfl) | (apply FG.gone; exact rfl)))) | (apply LexC.ad TYok (d := 208); exact Ev.auto; exact Ev.auto; exact rfl; exact rfl; exact rfl; exact rfl; exact rfl; exact rfl; exact rfl; exact rfl; (intro r hr; first | (obtain ⟨_, _, rfl⟩ := List.mem_map.1 hr; rfl) | (obtain rfl := List.mem_singleton.1 hr; rfl)); (constructor <;> simp <;> omega); exact rfl; kernel_rfl; exact rfl; exact rfl; exact rfl; (repeat (first | exact FG.nil | (apply FG.keep; exact rfl; exact rfl) | (apply FG.gone; exact rfl)))) | (apply LexC.ad TYok (d := 215); exact Ev.auto; exact Ev.auto; exact rfl; exact rfl; exact rfl; exact rfl; exact rfl; exact rfl; exact rfl; exact rfl; (intro r hr; first | (obtain ⟨_, _, rfl⟩ := List.mem_map.1 hr; rfl) | (obtain rfl := List.mem_singleton.1 hr; rfl)); (constructor <;> simp <;> omega); exact rfl; kernel_rfl; exact rfl; exact rfl; exact rfl; (repeat (first | exact FG.nil | (apply FG.keep; exact rfl; exact rfl) | (apply FG.gone; exact rfl)))) | (apply LexC.a TYok; exact Ev.auto; exact Ev.auto; exact rfl; exact rfl; exact rfl; exact rfl; exact rfl; exact rfl; exact rfl; exact rfl; (intro r hr; first | (obtain ⟨_, _, rfl⟩ := List.mem_map.1 hr; rfl) | (obtain rfl := List.mem_singleton.1 hr; rfl)); (constructor <;> simp <;> omega); exact rfl; kernel_rfl; exact rfl; exact rfl; (repeat (first | exact FG.nil | (apply FG.keep; exact rfl; exact rfl) | (apply FG.gone; exact rfl)))) | (apply LexC.cp; (intro G1; (first | (apply Q_leaf; exact QX.Build TYok) | (apply Q_litD TYok; apply EvR.cons Ev.auto; (repeat (first | exact EvR.nil | apply EvR.cons Ev.auto)); exact rfl; exact rfl; exact rfl; exact rfl; exact rfl; exact rfl) | exact QX.B TYok | exact QX.Len TYok | exact QX.Ext TYok | exact QX.Build TYok | exact QCd (h0) | exact QCd (h1) | exact QCd (h2) | exact QCd (h3) | exact QCd (h4) | exact QCd (m1) | exact QCd (m2) | exact QCd (he) | exact QCd (vc) | exact QCd (v2) | exact QCd (v3) | exact QCd (v4) | exact QCd (va) | exact QCd (vb) | exact QCd (sa) | exact QCd (sb) | exact QCd (o0) | exact QCd (o1) | exact QCd (sq) | exact QCd (sr) | exact QCd (hr) | exact QCd (hw) | exact QCd (g1) | exact QCd (g2) | exact QCd (g3) | exact QCd (g4) | exact QCd (v6) | exact QCd (s6))); exact rfl; kernel_rfl; exact rfl; exact rfl) | (apply LexC.s TYok; exact Ev.auto; exact Ev.auto; exact rfl; exact rfl; exact rfl; exact rfl; exact rfl; kernel_rfl) | (refine W.condA (ht := fun hb => ?_) (hf := fun hb => ?_) <;> (try simp at hb) <;> (try (exfalso; omega))))
  all_goals first
    | exact Fin.ret ResL.auto
    | (exfalso; rcases (show x1 = 0 ∨ ¬ x1 = 0 by omega) with h | h <;> simp_all; done)
    | (have g := k6 (by simp_all) (by omega) (by simp_all) (by simp_all) (by simp_all) (by simp_all); exact Fin.retB rfl (by simp [g.1, g.2]))
    | trace_state
end
end Go.Proofs.Ytjedkgogjehigaa
end
section
set_option linter.unusedVariables false
set_option linter.unusedSimpArgs false
set_option maxHeartbeats 8000000
set_option linter.unusedSectionVars false
namespace Go.Proofs.Ytjedkgogjehigaa
open Lf Go
attribute [local irreducible] PureOp EffOp Ev RG W Then InBlock Lf.Fin nth App InitE Pick SubE EvL EvD EvP EvR ResL Lf.Lex SubR SubBR EvC FinO FinM ResM ResD FinS val pw digs trimL
section
variable {lets : List Let} {en : EnvQ} {v : EnvV}
attribute [local irreducible] sgn mag gcdZ quoZ remZ fullZ fullE
theorem same_any2 (p : Rat) (op : okF p) : ∃ b, ACalls Try.prog 12 [zF0, zF p] (.pv (cB b)) := by
  have hp := num_len op.1
  have hp2 := num_len op.2
  have s1 := sameBig_ok 0 (sgn p.num) [] (digs (mag p.num)) (by simp) (by omega)
  have s2 := sameBig_ok 0 (sgn p.den) [] (digs (mag p.den)) (by simp) (by omega)
  generalize (decide ((0 : Int) = sgn p.num) && decide ([] = digs (mag p.num))) = b1 at *
  generalize (decide ((0 : Int) = sgn p.den) && decide ([] = digs (mag p.den))) = b2 at *
  refine ⟨b1 && b2, ?_⟩
  refine ACalls.of_W (qs := [cB (b1 && b2)]) [4] 17 Try.func12 (by kernel_rfl) rfl rfl rfl fun G => ?_
  refine W.initA (hw := ?_)
  repeat' (first | ((first | apply U_ | (apply Ug_; exact rfl; exact rfl) | (apply Ugq_; exact rfl; exact rfl)); (first | exact QX.B TYok | exact QCd (s1) | exact QCd (s2)); exact rfl) | refine SX.Box TYok (h := ?_) | refine SC ?_ | (apply RG.gT; exact rfl; exact rfl; (first | assumption | decide)) | (apply RG.gF; exact rfl; exact rfl; (first | assumption | decide | (rw [ne_eq, Bool.not_eq_true]; assumption) | (rw [ne_eq, Bool.not_eq_false]; assumption)); exact rfl) | (refine W.condA (ht := fun hb => ?_) (hf := fun hb => ?_) <;> (try simp at hb) <;> (try (exfalso; omega))))
  all_goals exact Fin.ret ResL.auto
end
end Go.Proofs.Ytjedkgogjehigaa
end
section
set_option linter.unusedVariables false
set_option linter.unusedSimpArgs false
set_option maxHeartbeats 8000000
set_option linter.unusedSectionVars false
namespace Go.Proofs.Ytjedkgogjehigaa
open Lf Go
attribute [local irreducible] PureOp EffOp Ev RG W Then InBlock Lf.Fin nth App InitE Pick SubE EvL EvD EvP EvR ResL Lf.Lex SubR SubBR EvC FinO FinM ResM ResD FinS val pw digs trimL
section
variable {lets : List Let} {en : EnvQ} {v : EnvV}
theorem right_up : ∀ (d : Nat) (e : Exp), rightF d e = true → rightF (d + 1) e = true
  | 0, e, h => by rw [rightF] at h; cases h
  | d + 1, .mk op n u s l, h => by
    rw [rightF] at h ⊢
    have up : l.all (rightF d) = true → l.all (rightF (d + 1)) = true := fun q => List.all_eq_true.2 fun x hx => right_up d x (List.all_eq_true.1 q x hx)
    simp only [Bool.and_eq_true] at h ⊢
    refine ⟨h.1, ?_⟩
    have h2 := h.2
    split
    · rw [if_pos (by assumption)] at h2; exact h2
    · rw [if_neg (by assumption)] at h2
      split
      · rw [if_pos (by assumption)] at h2; exact h2
      · rw [if_neg (by assumption)] at h2
        split
        · rw [if_pos (by assumption)] at h2
          simp only [Bool.and_eq_true] at h2 ⊢
          exact ⟨h2.1, up h2.2⟩
        · rw [if_neg (by assumption)] at h2
          simp only [Bool.and_eq_true] at h2 ⊢
          exact ⟨h2.1, up h2.2⟩
abbrev ifE (c a b : Exp) : Exp := .mk 15 0 0 [] [c, a, b]
theorem okIf {c a b : Exp} (hc : OkE c) (ha : OkE a) (hb : OkE b) : OkE (ifE c a b) := .mk (by decide) (by simp) (fun x hx => by
  rcases List.mem_cons.1 hx with rfl | hx
  · exact hc
  rcases List.mem_cons.1 hx with rfl | hx
  · exact ha
  rw [List.mem_singleton.1 hx]
  exact hb)
theorem stat_if {c a b : Exp} (h : statF (ifE c a b) = true) : statF c = true ∧ statF a = true ∧ statF b = true := by
  obtain ⟨h1, h2⟩ := statF_yes h
  rcases stat_cases (d := 11) h1 h2 with ⟨q, _⟩ | ⟨q, _⟩ | ⟨q, _⟩ | ⟨q, _⟩ | ⟨_, h3⟩
  · omega
  · omega
  · omega
  · omega
  · have k : ∀ x ∈ [c, a, b], statF x = true := fun x hx => by unfold statF; rw [right_up 11 x (h3 x hx).1, (h3 x hx).2]; rfl
    exact ⟨k c (by simp), k a (by simp), k b (by simp)⟩
theorem same_any1 (p : Rat) (op : okF p) : ∃ b, ACalls Try.prog 12 [zF p, zF0] (.pv (cB b)) := by
  have hp := num_len op.1
  have hp2 := num_len op.2
  have s1 := sameBig_ok (sgn p.num) 0 (digs (mag p.num)) [] (by omega) (by simp)
  have s2 := sameBig_ok (sgn p.den) 0 (digs (mag p.den)) [] (by omega) (by simp)
  generalize (decide (sgn p.num = (0 : Int)) && decide (digs (mag p.num) = [])) = b1 at *
  generalize (decide (sgn p.den = (0 : Int)) && decide (digs (mag p.den) = [])) = b2 at *
  refine ⟨b1 && b2, ?_⟩
  refine ACalls.of_W (qs := [cB (b1 && b2)]) [4] 17 Try.func12 (by kernel_rfl) rfl rfl rfl fun G => ?_
  refine W.initA (hw := ?_)
  repeat' (first | ((first | apply U_ | (apply Ug_; exact rfl; exact rfl) | (apply Ugq_; exact rfl; exact rfl)); (first | exact QX.B TYok | exact QCd (s1) | exact QCd (s2)); exact rfl) | refine SX.Box TYok (h := ?_) | refine SC ?_ | (apply RG.gT; exact rfl; exact rfl; (first | assumption | decide)) | (apply RG.gF; exact rfl; exact rfl; (first | assumption | decide | (rw [ne_eq, Bool.not_eq_true]; assumption) | (rw [ne_eq, Bool.not_eq_false]; assumption)); exact rfl) | (refine W.condA (ht := fun hb => ?_) (hf := fun hb => ?_) <;> (try simp at hb) <;> (try (exfalso; omega))))
  all_goals exact Fin.ret ResL.auto
theorem sameRs_any (R R' : Rs) (h : R.fit) (h' : R'.fit) : ∃ b, ACalls Try.prog 12 [R.v, R'.v] (.pv (cB b)) ∧ (R = R' → b = true) := by
  cases R with
  | ok p => cases R' with
    | ok q => exact ⟨_, same_ok p q h h', fun e => by injection e with e; exact decide_eq_true e⟩
    | err y => obtain ⟨b, hb⟩ := same_any1 p h; exact ⟨b, hb, fun e => by cases e⟩
  | err x => cases R' with
    | ok q => obtain ⟨b, hb⟩ := same_any2 q h'; exact ⟨b, hb, fun e => by cases e⟩
    | err y => exact ⟨true, same0_ok, fun _ => rfl⟩
theorem fewF_yes {c : Exp} (h : fewF lets c v = true) : lets.length ≤ 3 ∧ lens8 v := by
  unfold fewF fewL fewV at h
  simp only [Bool.and_eq_true, decide_eq_true_iff] at h
  exact ⟨by have := h.1.1.1; omega, h.2.1.1.1⟩
attribute [local irreducible] sgn mag gcdZ quoZ remZ fullZ fullE
theorem lazy_ret {c a b : Exp} {q : Fq} {R1 R2 R3 R4 : Rs} {f1 f2 f3 f4 : Bool} (h1 : ACalls Try.prog 7 [xV lets, aE c, vV v] (.pv (cB f1))) (h2 : ACalls Try.prog 13 [aE a, cI 15] (.pv (cB f2))) (h3 : ACalls Try.prog 13 [aE b, cI 15] (.pv (cB f3))) (h4 : ACalls Try.prog 14 [fqV q, cI 3] (.pv (cB f4)))
    (v1 : ACalls Try.prog 8 [xV lets, aE c, vV v] (resP R1)) (v2 : ACalls Try.prog 8 [xV lets, aE (ifE c a b), vV v] (resP R2)) (v3 : ACalls Try.prog 8 [xV lets, aE (nodeE 13 c a), vV v] (resP R3)) (v4 : ACalls Try.prog 8 [xV lets, aE (nodeE 14 c a), vV v] (resP R4))
    (hr : f1 = true → R2.e ≠ 1 → R3.e ≠ 1 → R4.e ≠ 1 → R1.e ≠ 0 ∧ R2.e = R1.e ∧ R3.e = R1.e ∧ R4.e = R1.e) :
    ACalls Try.prog 4 [slL lets, aE c, aE a, aE b, vV v, fqV q] (.pv (cB true)) := by
  have h0 := small_ok
  have he := env_ok v
  have m1 := node_ok 13 c a
  have m2 := node_ok 14 c a
  obtain ⟨x1, x2, x3, x4, c1, q1, _, q2⟩ := R1.split
  obtain ⟨y1, y2, y3, y4, c2, r1, _, r2⟩ := R2.split
  obtain ⟨z1, z2, z3, z4, c3, s1, _, s2⟩ := R3.split
  obtain ⟨u1, u2, u3, u4, c4, t1, _, t2⟩ := R4.split
  rw [q1] at v1
  rw [r1, aE_mk] at v2
  replace v2 : ACalls Try.prog 8 [xV lets, .agg [.int .i64 15, .int .i64 0, .int .i64 0, .str [], .sl [encX c, encX a, encX b]], vV v] _ := v2
  rw [s1] at v3
  rw [t1] at v4
  rw [q2, r2, s2, t2] at hr
  clear q1 q2 r1 r2 s1 s2 t1 t2
  generalize nodeE 13 c a = e1 at *
  generalize nodeE 14 c a = e2 at *
  obtain ⟨q1, q2, q3, q4⟩ := q
  obtain ⟨N, V, I, R⟩ := v
  have sp : ∀ e : Exp, ∃ (a b c : Int) (s : Str) (l : List (List Cell)), encX e = [.int .i64 a, .int .i64 b, .int .i64 c, .str s, .sl l] := fun e => ⟨_, _, _, _, _, rfl⟩
  obtain ⟨_, _, _, _, _, q⟩ := sp c
  rw [show aE c = .agg (encX c) from rfl, q] at h1 m1 m2 v1 ⊢
  rw [q] at v2
  clear q
  obtain ⟨_, _, _, _, _, q⟩ := sp a
  rw [show aE a = .agg (encX a) from rfl, q] at h2 m1 m2 ⊢
  rw [q] at v2
  clear q
  obtain ⟨_, _, _, _, _, q⟩ := sp b
  rw [show aE b = .agg (encX b) from rfl, q] at h3 ⊢
  rw [q] at v2
  clear q
  obtain ⟨_, _, _, _, _, q⟩ := sp e1
  rw [show aE e1 = .agg (encX e1) from rfl, q] at m1 v3
  clear q
  obtain ⟨_, _, _, _, _, q⟩ := sp e2
  rw [show aE e2 = .agg (encX e2) from rfl, q] at m2 v4
  clear q sp
  refine ACalls.of_W (qs := [cB true]) [12] 259 Try.func4 (by kernel_rfl) rfl rfl rfl fun G => ?_
  refine W.initA (hw := ?_)
  repeat' (first | (refine W.weaken (Le.freeze1 (m := 10) rfl) ?_) | (refine W.weaken (Le.freeze1 (m := 11) rfl) ?_) | (refine W.purgeR [(8, [0, 7, 8, 9, 10, 11, 13, 14, 15, 16, 17]), (12, [0, 7, 8, 9, 10, 11, 13, 14, 15, 18, 19, 20, 21, 22, 23, 24, 25])] rfl (by repeat (first | exact PN.nil | apply PN.po rfl | (apply PN.pa; exact rfl; (repeat (first | (apply NR.cons; exact rfl) | exact NR.nil rfl))) | apply PN.a rfl | apply PN.s rfl | apply PN.u rfl | apply PN.m rfl | apply PN.k rfl | apply PN.i rfl | apply PN.skip)) (by repeat (first | exact PB.nil | (apply PB.one; exact rfl; (focus (first | (dsimp only; done) | (dsimp only; exact rfl) | exact rfl)); (focus (first | (dsimp only; done) | (dsimp only; exact rfl) | exact rfl)); exact rfl; (repeat (first | (apply NR.cons; exact rfl) | exact NR.nil rfl)))  | apply PB.cons rfl)) ?_) | ((first | apply U_ | (apply Ug_; exact rfl; exact rfl) | (apply Ugq_; exact rfl; exact rfl) | apply Lex.u | (apply Lex.g; exact rfl; exact rfl) | (apply Lex.gq; exact rfl; exact rfl)); (first | (apply Q_litD TYok; apply EvR.cons Ev.auto; (repeat (first | exact EvR.nil | apply EvR.cons Ev.auto)); exact rfl; exact rfl; exact rfl; exact rfl; exact rfl; exact rfl) | exact QX.B TYok | exact QX.Len TYok | exact QX.Ext TYok | exact QX.Build TYok | exact QCd (h0) | exact QCd (h1) | exact QCd (h2) | exact QCd (h3) | exact QCd (h4) | exact QCd (m1) | exact QCd (m2) | exact QCd (he) | exact QCd (v1) | exact QCd (v2) | exact QCd (v3) | exact QCd (v4)); exact rfl) | refine SX.Alloc TYok (h := ?_) | refine SX.Store TYok (h := ?_) | refine SX.Lit TYok (h := ?_) | refine SX.App TYok (h := ?_) | refine SX.Box TYok (h := ?_) | refine SC ?_ | (apply S_isnil TYok; exact rfl; exact rfl; exact rfl; exact Ev.auto; intro bn hnil) | (apply RG.gT; exact rfl; exact rfl; (first | assumption | decide)) | (apply RG.gF; exact rfl; exact rfl; (first | assumption | decide | (rw [ne_eq, Bool.not_eq_true]; assumption) | (rw [ne_eq, Bool.not_eq_false]; assumption)); exact rfl) | apply LexS.nil | (apply LexS.f; exact rfl; (first | (apply FreshV.alloc TYok; exact rfl; exact rfl; exact rfl; exact rfl) | (apply FreshV.lit TYok; (repeat (first | exact EvR.nil | apply EvR.cons Ev.auto)); exact rfl; exact rfl; exact rfl; exact rfl; exact rfl; exact rfl; exact rfl; exact rfl; exact rfl) | (apply FreshV.box; exact Ev.auto; exact rfl; exact rfl; exact rfl)); exact rfl; exact rfl; exact rfl) | (apply LexS.s; exact rfl; exact rfl; (apply StoreV.mk TYok; exact Ev.auto; exact Ev.auto; exact rfl; exact rfl; exact rfl; exact rfl; exact rfl)) | ((first | apply LexS.u | (apply LexS.g; exact rfl; exact rfl) | (apply LexS.gq; exact rfl; exact rfl)); (repeat (first | (apply NB.cons; exact rfl) | exact NB.nil rfl)); (first | (apply Q_litD TYok; apply EvR.cons Ev.auto; (repeat (first | exact EvR.nil | apply EvR.cons Ev.auto)); exact rfl; exact rfl; exact rfl; exact rfl; exact rfl; exact rfl) | exact QX.B TYok | exact QX.Len TYok | exact QX.Ext TYok | exact QX.Build TYok | exact QCd (h0) | exact QCd (h1) | exact QCd (h2) | exact QCd (h3) | exact QCd (h4) | exact QCd (m1) | exact QCd (m2) | exact QCd (he) | exact QCd (v1) | exact QCd (v2) | exact QCd (v3) | exact QCd (v4)); exact rfl; exact rfl; exact rfl) | (apply W.draw2 (id := 21) [0, 0, 3, 7, 15, 15, 63, 127, 255, 511, 1023, 2047, 4095, 8191, 16383, 32767, 65535, 65535, 262143, 524287, 1048575, 2097151, 4194303, 8388607, 16777215, 33554431, 67108863, 134217727, 268435455, 536870911, 536870911, 2147483647, 4294967295, 8589934591, 17179869183, 34359738367] [[29], [21], [145, 146], [147], [28, 148], [20, 148], [149, 150, 148], [151, 148], [148, 152], [153], [26, 154], [155, 154], [156, 154], [23, 157], [158, 157], [159, 157], [22, 160], [160], [161, 162, 160], [163, 160], [160, 164, 157], [157, 165, 154], [154, 166], [167], [26, 168], [169, 168], [25, 170], [171, 170], [172, 170], [24, 173], [173], [174, 175, 173], [176, 173], [173, 177, 170], [170, 178, 168], [168, 179]] 36 [(145, 536870912), (146, 2097152), (147, 133804471191183738849214309635890169035882496), (148, 178405961588244985132285746181186892047843328), (149, 356811923176489970264571492362373784364122112), (150, 356811923176489970264571492362373784096735232), (151, 2497683462235429791852000446536616488669806592), (152, 3211307308588409732381143431261364056861179904), (153, 6065802694000329494497715370160354329626673152), (154, 11417981541647679048466287755595961091061972992), (155, 22835963083295358096932575511191922182191054848), (156, 68507889249886074290797726533575766546371837952), (157, 114179815416476790484662877555959610910619729920), (158, 182687704666362864775460604089535377456999956480), (159, 548063113999088594326381812268606132370974703616), (160, 913438523331814323877303020447676887284957839360), (161, 1461501637330902918203684832716283019655936737280), (162, 1461501637330902918203684832716283019655932542976), (163, 10230511461316320427425793829013981137591527800832), (164, 13153514735978126263833163494446547176903392886784), (165, 25028215539291712474238102760266346711607844798464), (166, 46973576062338551605390307826521783928628956889088), (167, 93558940752261082123132761869353305180161806696448), (168, 187072209578355573530071658587684226515959365500928), (169, 374144419156711147060143317175368453031918798110720), (170, 1122433257470133441180429951526105359095756193005568), (171, 1496577676626844588240573268701473812127674957561856), (172, 4489733029880533764721719806104421436383024772022272), (173, 7482888383134222941202866343507369060638374620037120), (174, 11972621413014756705924586149611790497021399408836608), (175, 11972621413014756705924586149611790497021399392059392), (176, 83808349891103296941472103047282533479149795744415744), (177, 107753592717132810353321275346506114473192594528534528), (178, 205031141697877708588958537812101912261491464589017088), (179, 384994607312255770324887473373454138169844374200909824), (180, 766621914852101140326233656892329960262401479822802944)] mixed (by kernel_rfl) rfl rfl) | (refine W.drawS (id := 8) [0, 0, 0, 4, 15, 31, 63, 63, 0, 383, 1023] [[14], [7], [10], [72], [70, 71, 73], [74], [69], [69], [], [18, 75], [76]] [(9, (18, ?_)), (8, (18, ?_))] [(9, 18), (8, 18)] mixed (by kernel_rfl) rfl ?_; rotate_left 2) | (refine W.drawS (id := 9) [0, 0, 0, 4, 15, 31, 63, 63, 0, 383, 1023] [[14], [15], [10], [80], [78, 79, 81], [82], [77], [77], [], [20, 83], [84]] [(9, (20, ?_)), (8, (20, ?_))] [(9, 20), (8, 20)] mixed (by kernel_rfl) rfl ?_; rotate_left 2) | (refine W.drawS (id := 10) [0, 0, 0, 4, 15, 31, 63, 63, 0, 383, 1023] [[14], [16], [10], [88], [86, 87, 89], [90], [85], [85], [], [22, 91], [92]] [(9, (22, ?_)), (8, (22, ?_))] [(9, 22), (8, 22)] mixed (by kernel_rfl) rfl ?_; rotate_left 2) | (refine W.drawS (id := 11) [0, 0, 0, 4, 15, 31, 63, 63, 0, 383, 1023] [[14], [17], [10], [96], [94, 95, 97], [98], [93], [93], [], [24, 99], [100]] [(9, (24, ?_)), (8, (24, ?_))] [(9, 24), (8, 24)] mixed (by kernel_rfl) rfl ?_; rotate_left 2) | (refine W.drawA (id := 20) (L := [false, false, false, false, false, false, false, false, false, false, false]) mixed rfl ?_) | exact RAll.nil | (refine RAll.cons rfl ?_ ?_) | (refine RA.step (L := [false, false, false, false, false, false, false, false, false, false, false]) (i := 0) (is := [1, 2, 8]) (by kernel_rfl) ?_) | (refine RA.step (L := [false, false, false, false, false, false, false, false, true, false, false]) (i := 0) (is := [1, 2]) (by kernel_rfl) ?_) | (refine RA.step (L := [false, false, true, false, false, false, false, false, true, false, false]) (i := 0) (is := [1, 3]) (by kernel_rfl) ?_) | (refine RA.step (L := [false, false, true, true, false, false, false, false, true, false, false]) (i := 0) (is := [1]) (by kernel_rfl) ?_) | (refine RA.step (L := [false, true, true, true, false, false, false, false, true, false, false]) (i := 0) (is := []) (by kernel_rfl) ?_) | (refine RA.step (L := [true, true, true, true, false, false, false, false, true, false, false]) (i := 4) (is := []) (by kernel_rfl) ?_) | (refine RA.step (L := [true, true, true, true, true, false, false, false, true, false, false]) (i := 5) (is := []) (by kernel_rfl) ?_) | (refine RA.step (L := [true, true, true, true, true, true, false, false, true, false, false]) (i := 6) (is := [7]) (by kernel_rfl) ?_) | (refine RA.step (L := [true, true, true, true, true, true, false, true, true, false, false]) (i := 6) (is := []) (by kernel_rfl) ?_) | (refine RA.step (L := [true, true, true, true, true, true, true, true, true, false, false]) (i := 9) (is := []) (by kernel_rfl) ?_) | (refine RA.step (L := [true, true, true, true, true, true, true, true, true, true, false]) (i := 10) (is := []) (by kernel_rfl) ?_) | (refine RA.done (L := [true, true, true, true, true, true, true, true, true, true, true]) (by kernel_rfl) ?_) | (refine RA.step (L := [true, true, true, true, true, true, true, false, true, false, false]) (i := 7) (is := [9]) (by kernel_rfl) ?_) | (refine RA.step (L := [true, true, true, true, true, true, true, false, true, true, false]) (i := 7) (is := []) (by kernel_rfl) ?_) | (refine RA.step (L := [true, false, true, true, false, false, false, false, true, false, false]) (i := 1) (is := []) (by kernel_rfl) ?_) | (refine RA.step (L := [false, true, true, false, false, false, false, false, true, false, false]) (i := 0) (is := [3]) (by kernel_rfl) ?_) | (refine RA.step (L := [true, true, true, false, false, false, false, false, true, false, false]) (i := 3) (is := []) (by kernel_rfl) ?_) | (refine RA.step (L := [true, false, true, false, false, false, false, false, true, false, false]) (i := 1) (is := [3]) (by kernel_rfl) ?_) | (refine RA.step (L := [false, true, false, false, false, false, false, false, true, false, false]) (i := 0) (is := [2]) (by kernel_rfl) ?_) | (refine RA.step (L := [true, true, false, false, false, false, false, false, true, false, false]) (i := 2) (is := []) (by kernel_rfl) ?_) | (refine RA.step (L := [true, false, false, false, false, false, false, false, true, false, false]) (i := 1) (is := [2]) (by kernel_rfl) ?_) | (refine RA.step (L := [false, false, true, false, false, false, false, false, false, false, false]) (i := 0) (is := [1, 3, 8]) (by kernel_rfl) ?_) | (refine RA.step (L := [false, false, true, true, false, false, false, false, false, false, false]) (i := 0) (is := [1, 8]) (by kernel_rfl) ?_) | (refine RA.step (L := [false, true, true, true, false, false, false, false, false, false, false]) (i := 0) (is := [8]) (by kernel_rfl) ?_) | (refine RA.step (L := [true, true, true, true, false, false, false, false, false, false, false]) (i := 4) (is := [8]) (by kernel_rfl) ?_) | (refine RA.step (L := [true, true, true, true, true, false, false, false, false, false, false]) (i := 5) (is := [8]) (by kernel_rfl) ?_) | (refine RA.step (L := [true, true, true, true, true, true, false, false, false, false, false]) (i := 6) (is := [7, 8]) (by kernel_rfl) ?_) | (refine RA.step (L := [true, true, true, true, true, true, false, true, false, false, false]) (i := 6) (is := [8]) (by kernel_rfl) ?_) | (refine RA.step (L := [true, true, true, true, true, true, true, true, false, false, false]) (i := 8) (is := []) (by kernel_rfl) ?_) | (refine RA.step (L := [true, true, true, true, true, true, true, false, false, false, false]) (i := 7) (is := [8]) (by kernel_rfl) ?_) | (refine RA.step (L := [true, false, true, true, false, false, false, false, false, false, false]) (i := 1) (is := [8]) (by kernel_rfl) ?_) | (refine RA.step (L := [false, true, true, false, false, false, false, false, false, false, false]) (i := 0) (is := [3, 8]) (by kernel_rfl) ?_) | (refine RA.step (L := [true, true, true, false, false, false, false, false, false, false, false]) (i := 3) (is := [8]) (by kernel_rfl) ?_) | (refine RA.step (L := [true, false, true, false, false, false, false, false, false, false, false]) (i := 1) (is := [3, 8]) (by kernel_rfl) ?_) | (refine RA.step (L := [false, true, false, false, false, false, false, false, false, false, false]) (i := 0) (is := [2, 8]) (by kernel_rfl) ?_) | (refine RA.step (L := [true, true, false, false, false, false, false, false, false, false, false]) (i := 2) (is := [8]) (by kernel_rfl) ?_) | (refine RA.step (L := [true, false, false, false, false, false, false, false, false, false, false]) (i := 1) (is := [2, 8]) (by kernel_rfl) ?_) | (refine W.condA (ht := fun hb => ?_) (hf := fun hb => ?_) <;> (try simp at hb) <;> (try (exfalso; first | exact (fun q => by have hr := hr (by simp_all) (by omega) (by omega) (by omega); omega) hb | omega))))
  all_goals first
    | exact Fin.ret ResL.auto
    | (have hr := hr (by simp_all) (by omega) (by omega) (by omega); exact Fin.retB rfl (by simp; omega))
    | (exfalso; omega)
    | trace_state
end
end Go.Proofs.Ytjedkgogjehigaa
end
section
set_option linter.unusedVariables false
set_option linter.unusedSimpArgs false
set_option maxHeartbeats 8000000
set_option linter.unusedSectionVars false
namespace Go.Proofs.Ytjedkgogjehigaa
open Lf Go
attribute [local irreducible] PureOp EffOp Ev RG W Then InBlock Lf.Fin nth App InitE Pick SubE EvL EvD EvP EvR ResL Lf.Lex SubR SubBR EvC FinO FinM ResM ResD FinS val pw digs trimL
section
variable {lets : List Let} {en : EnvQ} {v : EnvV}
theorem Rs.frac (R : Rs) : ∃ y1 y2 y3 y4, R.v = .agg [.int .i64 y1, .sl y2, .int .i64 y3, .sl y4] := by
  cases R <;> exact ⟨_, _, _, _, rfl⟩
theorem wide_len (hl : LIn lets) (h3 : lets.length ≤ 3) : LIn (lets ++ [zzL]) := ⟨by simp; omega, fun y hy => by
  rcases List.mem_append.1 hy with h | h
  · exact hl.ok y h
  · rw [List.mem_singleton.1 h]; exact okLeaf (by decide)⟩
theorem wide_env (hv : v.Len) (h8 : lens8 v) {q : Fq} (hq : FqOk q) : EnvV.Len ⟨v.names ++ [kZz], v.vals ++ [q], v.iss ++ [kZz], v.rates ++ [q]⟩ := by
  unfold lens8 at h8
  refine ⟨by simp; omega, by simp; omega, by simp; omega, by simp; omega, fun r hr => ?_, fun r hr => ?_⟩
  · rcases List.mem_append.1 hr with h | h
    · exact hv.q1 r h
    · rw [List.mem_singleton.1 h]; exact hq
  · rcases List.mem_append.1 hr with h | h
    · exact hv.q2 r h
    · rw [List.mem_singleton.1 h]; exact hq
theorem more_V (en : EnvQ) (r : Rat) : (en.more kZz r).V = ⟨en.V.names ++ [kZz], en.V.vals ++ [fqOf r], en.V.iss ++ [kZz], en.V.rates ++ [fqOf r]⟩ := by
  unfold EnvQ.more EnvQ.V
  simp
theorem more_ok {r : Rat} (he : en.Ok) (hr : okF r) (h8 : lens8 en.V) : (en.more kZz r).Ok := by
  unfold lens8 EnvQ.V at h8
  simp only [List.length_map] at h8
  refine ⟨fun x hx => ?_, fun x hx => ?_, ?_, ?_, ?_, ?_⟩
  · rcases List.mem_append.1 hx with h | h
    · exact he.v x h
    · rw [List.mem_singleton.1 h]; exact hr
  · rcases List.mem_append.1 hx with h | h
    · exact he.r x h
    · rw [List.mem_singleton.1 h]; exact hr
  · show (en.names ++ [kZz]).length = (en.vals ++ [r]).length
    simp [he.l1]
  · show (en.iss ++ [kZz]).length = (en.rates ++ [r]).length
    simp [he.l2]
  · show (en.names ++ [kZz]).length ≤ _
    simp; omega
  · show (en.iss ++ [kZz]).length ≤ _
    simp; omega
theorem stat_seven : statF (.mk 0 7 0 [] []) = true := by decide +kernel
theorem wide_lets (hL : LetsOk lets) (h3 : lets.length ≤ 3) : LetsOk (lets ++ [zzL]) := ⟨by simp; omega, fun y hy => by
  rcases List.mem_append.1 hy with h | h
  · exact hL.2 y h
  · rw [List.mem_singleton.1 h]; exact ⟨stat_seven, okLeaf (by decide)⟩⟩
theorem lazy_ok (hl : LIn lets) (c a b : Exp) (oc : OkE c) (oa : OkE a) (ob : OkE b) (v : EnvV) (hv : v.Len) (q : Fq) (hq : FqOk q) : ACalls Try.prog 4 [slL lets, aE c, aE a, aE b, vV v, fqV q] (.pv (cB true)) := by
  have h1 := few_ok hl c oc v hv
  have h2 := fewE_ok a oa 15 (by omega) (by omega)
  have h3 := fewE_ok b ob 15 (by omega) (by omega)
  have h4 := fewQ_ok q
  obtain ⟨R1, v1, f1, k1⟩ := value_res hl oc hv
  obtain ⟨R2, v2, f2, k2⟩ := value_res hl (okIf oc oa ob) hv
  obtain ⟨R3, v3, f3, k3⟩ := value_res hl (okNode (op := 13) oc oa) hv
  obtain ⟨R4, v4, f4, k4⟩ := value_res hl (okNode (op := 14) oc oa) hv
  by_cases hA : R2.e = 1 ∨ R3.e = 1 ∨ R4.e = 1
  · exact lazy_ret h1 h2 h3 h4 v1 v2 v3 v4 (fun _ _ _ _ => by omega)
  obtain ⟨en, oen, hL, rfl, s2, e2⟩ := k2 (by omega)
  obtain ⟨en3, _, _, w3, s3, e3⟩ := k3 (by omega)
  obtain ⟨en4, _, _, w4, s4, e4⟩ := k4 (by omega)
  obtain rfl := V_inj w3
  obtain rfl := V_inj w4
  clear w3 w4 k1 k2 k3 k4 v1 f1 hA
  obtain ⟨sc, sa, sb⟩ := stat_if s2
  have e2' : R2 = evF lets en (tabF lets en lets.length) (ifE c a b) := e2
  have e3' : R3 = evF lets en (tabF lets en lets.length) (nodeE 13 c a) := e3
  have e4' : R4 = evF lets en (tabF lets en lets.length) (nodeE 14 c a) := e4
  rw [ev_if] at e2'
  rw [ev_and] at e3'
  rw [ev_or] at e4'
  obtain ⟨v1, f1⟩ := val_ok hL oen oc sc rfl
  obtain ⟨va, fa⟩ := val_ok hL oen oa sa rfl
  obtain ⟨vb, fb⟩ := val_ok hL oen ob sb rfl
  cases hc : valF lets en lets.length c with
  | err x =>
    have hc' : evF lets en (tabF lets en lets.length) c = .err x := hc
    rw [hc'] at e2' e3' e4'
    rw [hc] at v1 f1
    exact lazy_ret h1 h2 h3 h4 v1 v2 v3 v4 (fun _ _ _ _ => by rw [e2', e3', e4']; exact ⟨f1, rfl, rfl, rfl⟩)
  | ok w =>
  have hc' : evF lets en (tabF lets en lets.length) c = .ok w := hc
  rw [hc'] at e2' e3' e4'
  rw [hc] at v1 f1
  dsimp only at e2' e3' e4'
  by_cases hf : fewF lets c en.V = false
  · exact lazy_ret h1 h2 h3 h4 v1 v2 v3 v4 (fun q => by rw [hf] at q; cases q)
  rw [Bool.not_eq_false] at hf
  obtain ⟨hlen, l8⟩ := fewF_yes hf
  rw [hf] at h1
  obtain ⟨ba, sa1, ha⟩ := sameRs_any (valF lets en lets.length a) R2 fa f2
  obtain ⟨bb, sb1, hb⟩ := sameRs_any (valF lets en lets.length b) R2 fb f2
  obtain ⟨bq, sq, hq1⟩ := sameRs_any R3 (.ok (one01 false)) f3 (one01_ok false)
  obtain ⟨br, sr, hr1⟩ := sameRs_any R4 (.ok (one01 true)) f4 (one01_ok true)
  have h6 : ∃ R6 : Rs, ACalls Try.prog 8 [xV (lets ++ [zzL]), aE (ifE c a b), vV ⟨en.V.names ++ [kZz], en.V.vals ++ [q], en.V.iss ++ [kZz], en.V.rates ++ [q]⟩] (resP R6) ∧ R6.fit ∧ (q.right = true → hasF kZz c = false → hasF kZz a = false → hasF kZz b = false → (lets.any fun y => hasF kZz y.body) = false → R6 = R2) := by
    by_cases hqr : q.right = true
    · obtain ⟨r, ok1, rfl⟩ := Fq.rat hqr
      have om := more_ok (r := r) oen ok1 l8
      have hL6 := wide_lets hL hlen
      rw [← more_V]
      have h := val_ok hL6 om (okIf oc oa ob) s2 rfl
      exact ⟨_, h.1, h.2, fun _ n1 n2 n3 n4 => by
        rw [e2]
        exact val_wide (L := zzL) oen.l1 oen.l2 n4 (by rw [hasF, hasFs_any]; simp [zzL, n1, n2, n3])⟩
    · obtain ⟨R6, v6, f6, _⟩ := value_res (wide_len hl hlen) (okIf oc oa ob) (wide_env hv l8 hq)
      exact ⟨R6, v6, f6, fun h => absurd h hqr⟩
  obtain ⟨R6, v6, f6, k6⟩ := h6
  obtain ⟨bs, s6, hs6⟩ := sameRs_any R6 R2 f6 f2
  have hw := env_ok ⟨en.V.names ++ [kZz], en.V.vals ++ [q], en.V.iss ++ [kZz], en.V.rates ++ [q]⟩
  have eV : vV ⟨en.V.names ++ [kZz], en.V.vals ++ [q], en.V.iss ++ [kZz], en.V.rates ++ [q]⟩ = .agg [.sl (en.V.names.map encS ++ [[.str kZz]]), .sl (en.V.vals.map encF ++ [encF q]), .sl (en.V.iss.map encS ++ [[.str kZz]]), .sl (en.V.rates.map encF ++ [encF q])] := by
    unfold vV encEnv; simp only [List.map_append, List.map_cons, List.map_nil]; rfl
  have eX : xV (lets ++ [zzL]) = yV (.sl (lets.map encL ++ [[.str kZz, .int .i64 0, .int .i64 7, .int .i64 0, .str [], .sl []]])) := by
    unfold xV yV; rw [List.map_append]; rfl
  rw [aE_mk] at v2 v6
  rw [eV] at hw v6
  rw [eX] at v6
  have o0 := of_ok 0 1 (by unfold i64B; omega) (by unfold i64B; omega) (by omega)
  have o1 := of_ok 1 1 (by unfold i64B; omega) (by unfold i64B; omega) (by omega)
  rw [show Rat.divInt 0 1 = one01 false from (one01_eq false).symm, zF_zero] at o0
  rw [show Rat.divInt 1 1 = one01 true from (one01_eq true).symm, zF_one] at o1
  replace sq : ACalls Try.prog 12 [R3.v, zF (one01 false)] (.pv (cB bq)) := sq
  replace sr : ACalls Try.prog 12 [R4.v, zF (one01 true)] (.pv (cB br)) := sr
  rw [zF_zero] at sq
  rw [zF_one] at sr
  refine lazy_walk hlen en.V.names en.V.vals en.V.iss en.V.rates q l8 c a b (nodeE 13 c a) (nodeE 14 c a) _ _ _ (sgn w.num) R2.e R3.e R4.e (valF lets en lets.length a).e (valF lets en lets.length b).e R6.e R2.v R3.v R4.v (valF lets en lets.length a).v (valF lets en lets.length b).v R6.v (digs (mag w.num)) (sgn w.den) (digs (mag w.den)) ba bb bq br bs q.right _ _ _ _ h1 h2 h3 h4 (node_ok 13 c a) (node_ok 14 c a) (env_ok en.V) v1 v2 v3 v4 va vb sa1 sb1 o0 o1 sq sr (fright_ok q.s q.d q.s' q.d' hq.1 hq.2) hw (has_ok kZz c oc) (has_ok kZz a oa) (has_ok kZz b ob) (bodies_ok kZz hl) v6 s6 (Rs.frac _) (Rs.frac _) (Rs.frac _) (Rs.frac _) (Rs.frac _) (Rs.frac _) ?_ ?_ ?_
  · intro hx
    rw [if_neg hx] at e2' e4'
    have e : valF lets en lets.length a = R2 := e2'.symm
    exact ⟨by rw [e], ha e, by rw [e4']; rfl, hr1 e4'⟩
  · intro hx
    rw [if_pos hx] at e2' e3'
    have e : valF lets en lets.length b = R2 := e2'.symm
    exact ⟨by rw [e], hb e, by rw [e3']; rfl, hq1 e3'⟩
  · intro r1 _ n1 n2 n3 n4
    have e := k6 r1 n1 n2 n3 n4
    exact ⟨by rw [e], hs6 e⟩
end
end Go.Proofs.Ytjedkgogjehigaa
end
section
set_option linter.unusedVariables false
set_option linter.unusedSimpArgs false
set_option linter.unusedSectionVars false
namespace Lf
open Go Go.RowKit Go.ChangeShapes Go.WideShapes Go.ChangeAt
def okK (T : TT) (R : Nat → Bool) (ti : TI) : Bool := match ti.kind with
  | .int _ | .bool | .string => Nat.beq ti.sz 1
  | .slice e => Nat.beq ti.sz 1 && R e && (match T e with | some te => Nat.blt 0 te.sz | none => false)
  | .struct fs => (match tile T 0 fs with | some s => Nat.beq s ti.sz | none => false) && fs.all fun f => R f.2
  | _ => false
def supR (T : TT) : Nat → Nat → Bool
  | 0, _ => true
  | n + 1, t => match T t with
    | some ti => okK T (supR T n) ti
    | none => false
def closedB (T : TT) (S : List Nat) : Bool := S.all fun t => match T t with | some ti => okK T (fun e => S.contains e) ti | none => false
theorem okK_mono {T : TT} {R R' : Nat → Bool} {ti : TI} (h : ∀ e, R e = true → R' e = true) (hk : okK T R ti = true) : okK T R' ti = true := by
  unfold okK at hk ⊢
  split at hk
  · exact hk
  · exact hk
  · exact hk
  · simp only [Bool.and_eq_true] at hk ⊢
    exact ⟨⟨hk.1.1, h _ hk.1.2⟩, hk.2⟩
  · simp only [Bool.and_eq_true, List.all_eq_true] at hk ⊢
    exact ⟨hk.1, fun f hf => h _ (hk.2 f hf)⟩
  · cases hk
theorem supR_closed {T : TT} {S : List Nat} (h : closedB T S = true) : ∀ (n t : Nat), t ∈ S → supR T n t = true
  | 0, _, _ => rfl
  | n + 1, t, ht => by
    have h1 := List.all_eq_true.1 h t ht
    rw [supR]
    cases hti : T t with
    | none => rw [hti] at h1; cases h1
    | some ti =>
      rw [hti] at h1
      exact okK_mono (fun e he => supR_closed h n e (by simpa using he)) h1
section
variable {P : Program} {T : TT} (hT : TOK P T)
include hT
theorem readR {H : Type} {enc : TypeId × Value → H} {w : World} {base : Nat} {spare : Nat → Bool} {held : Bool} : ∀ (n t fuel : Nat) (cs : List Value) (x : DataW H × List MemPlace), fuel ≤ n → supR T n t = true → DataW.trod enc P w base spare held fuel t cs = some x →
    ∃ cl, RelL (allΦ w) cs cl ∧ TyL T n t cl ∧ ∀ ti, T t = some ti → cl.length = ti.sz := by
  intro n
  induction n with
  | zero =>
    intro t fuel cs x hf hs h
    obtain rfl : fuel = 0 := by omega
    simp [DataW.trod] at h
  | succ n ih =>
    intro t fuel cs x hf hs h
    cases hti : T t with
    | none => simp [supR, hti] at hs
    | some ti =>
      have hk := (hT t ti hti).kind
      have hz := cellsOf_ti hT hti
      simp only [supR, hti, okK] at hs
      simp only [TyL, hti, Option.map_some]
      cases hkd : ti.kind with
      | int k =>
        rw [hkd] at hk hs
        obtain ⟨i, rfl, hx, hw⟩ := DataW.trod_int hk h
        exact ⟨[.int k i], ⟨.int k i, trivial⟩, ⟨i, rfl, hw⟩, fun tj hj => by obtain rfl := Option.some.inj hj; simpa using (Nat.eq_of_beq_eq_true hs).symm⟩
      | bool =>
        rw [hkd] at hk hs
        obtain ⟨b, rfl, hx⟩ := DataW.trod_bool hk h
        exact ⟨[.bool b], ⟨.bool b, trivial⟩, ⟨b, rfl⟩, fun tj hj => by obtain rfl := Option.some.inj hj; simpa using (Nat.eq_of_beq_eq_true hs).symm⟩
      | string =>
        rw [hkd] at hk hs
        obtain ⟨s, rfl, hx, hw⟩ := DataW.trod_string hk h
        refine ⟨[.str s.data.toList], ⟨.str s, trivial⟩, ⟨_, rfl, ?_⟩, fun tj hj => by obtain rfl := Option.some.inj hj; simpa using (Nat.eq_of_beq_eq_true hs).symm⟩
        rw [Array.length_toList]; exact hw
      | slice e =>
        rw [hkd] at hk hs
        simp only [Bool.and_eq_true] at hs
        obtain ⟨⟨hs1, hs2⟩, hs3⟩ := hs
        cases hte : T e with
        | none => rw [hte] at hs3; cases hs3
        | some te =>
          rw [hte] at hs3
          have hpos := blt_lt hs3
          have hze := cellsOf_ti hT hte
          have hlen1 : ∀ tj, some ti = some tj → 1 = tj.sz := fun tj hj => by obtain rfl := Option.some.inj hj; exact (Nat.eq_of_beq_eq_true hs1).symm
          rcases DataW.trod_slice hk h with ⟨rfl, hx⟩ | ⟨a, len, cap, elems, rest, m, rfl, rfl, hx, hb, hl, hm, hel, hget, _, _⟩
          · exact ⟨[.sl []], ⟨.sl0, trivial⟩, ⟨[], rfl, Nat.zero_le _, fun r hr => by cases hr⟩, hlen1⟩
          · have each : ∀ i, i < len → ∃ cl : List Cell, ∃ ci, w.cells? base (a.add (i * P.cellsOf e)) (P.cellsOf e) = some ci ∧ RelL (allΦ w) ci cl ∧ TyL T n e cl ∧ cl.length = te.sz := by
              intro i hi
              have h1 := hget i hi
              rw [List.getElem?_eq_getElem (by omega)] at h1
              cases hc : w.cells? base (a.add (i * P.cellsOf e)) (P.cellsOf e) with
              | none => rw [hc] at h1; cases h1
              | some ci =>
                rw [hc] at h1
                obtain ⟨cl, g1, g2, g3⟩ := ih e m ci _ (by omega) hs2 h1
                exact ⟨cl, ci, rfl, g1, g2, g3 te hte⟩
            obtain ⟨rows, hr1, hr2⟩ := pick_rows each
            refine ⟨[.sl rows], ⟨?_, trivial⟩, ⟨rows, rfl, by omega, fun r hr => ?_⟩, hlen1⟩
            · by_cases h0 : len = 0
              · subst h0
                obtain rfl : rows = [] := List.eq_nil_of_length_eq_zero hr1
                exact .slE a cap
              · obtain ⟨b, off, spot⟩ := a
                have cellat : ∀ i j r c, rows[i]? = some r → r[j]? = some c → ∃ v, w.cell? (Addr.add (Addr.add ⟨b, off, spot⟩ (i * te.sz)) j) = some v ∧ Rel (allΦ w) v c := by
                  intro i j r c h1 h2
                  obtain ⟨ci, g1, g2, g3, g4⟩ := hr2 i r h1
                  obtain ⟨v, hv1, hv2⟩ := g2.get h2
                  rw [hze] at g1
                  have hj : j < te.sz := by have := (List.getElem?_eq_some_iff.1 h2).1; omega
                  have := World.cells?_some g1
                  refine ⟨v, ?_, hv2⟩
                  rw [← hv1]
                  exact this.2.2 j hj
                have hrow0 : ∃ r, rows[0]? = some r := ⟨rows[0]'(by omega), List.getElem?_eq_getElem (by omega)⟩
                obtain ⟨r0, hr0⟩ := hrow0
                obtain ⟨_, _, _, _, hl0⟩ := hr2 0 r0 hr0
                obtain ⟨v0, hv0, _⟩ := cellat 0 0 r0 _ hr0 (List.getElem?_eq_getElem (show 0 < r0.length by omega))
                have hz0 : Addr.add (Addr.add ⟨b, off, spot⟩ (0 * te.sz)) 0 = ⟨b, off, spot⟩ := by simp [Addr.add]
                rw [hz0] at hv0
                have hsp : spot = none := (cell_all hv0).1
                subst hsp
                refine .sl b off len cap te.sz rows (fun i j => ((allΦ w b).bind (·[off + (i * te.sz + j)]?)).getD .nilFunc) hr1 hl (fun r hr => ?_) (fun i j r c h1 h2 => ?_) (fun i j r c h1 h2 => ?_)
                · obtain ⟨i, hi⟩ := List.getElem?_of_mem hr
                  obtain ⟨_, _, _, _, g⟩ := hr2 i r hi
                  exact g
                · obtain ⟨v, hv, _⟩ := cellat i j r c h1 h2
                  have := (cell_all hv).2
                  simp only [Addr.add_lit] at this
                  rw [show off + (i * te.sz + j) = off + i * te.sz + j by omega, this]; rfl
                · obtain ⟨v, hv, hv2⟩ := cellat i j r c h1 h2
                  have := (cell_all hv).2
                  simp only [Addr.add_lit] at this
                  rw [show off + (i * te.sz + j) = off + i * te.sz + j by omega, this]; exact hv2
            · obtain ⟨i, hi⟩ := List.getElem?_of_mem hr
              obtain ⟨_, _, _, g, _⟩ := hr2 i r hi
              exact g
      | struct fs =>
        rw [hkd] at hk hs
        obtain ⟨fields, hu, hfs⟩ := hk
        simp only [Bool.and_eq_true] at hs
        obtain ⟨hs1, hs2⟩ := hs
        cases htl : tile T 0 fs with
        | none => rw [htl] at hs1; cases hs1
        | some tot =>
          rw [htl] at hs1
          have htot := Nat.eq_of_beq_eq_true hs1
          obtain ⟨xs, m, rfl, hx, hlen, hxl, hget⟩ := DataW.trod_struct hu h
          have hall : ∀ f ∈ fs, ∃ y, DataW.trod enc P w base spare held m f.2 ((cs.drop f.1).take (P.cellsOf f.2)) = some y := by
            intro f hf
            rw [← hfs] at hf
            obtain ⟨g, hg, rfl⟩ := List.mem_map.1 hf
            obtain ⟨i, hi⟩ := List.getElem?_of_mem hg
            have hi' : fields[i]? = some g := by rw [← hi]; simp
            have hlt : i < xs.length := by rw [hxl]; exact (Array.getElem?_eq_some_iff.1 hi').1
            exact ⟨xs[i], by rw [hget i g hi', List.getElem?_eq_getElem hlt]⟩
          have main : ∀ (gs : List (Nat × Nat)) (o : Nat), (∀ f ∈ gs, ∃ y, DataW.trod enc P w base spare held m f.2 ((cs.drop f.1).take (P.cellsOf f.2)) = some y) → gs.all (fun f => supR T n f.2) = true → tile T o gs = some tot → cs.length = tot →
              ∃ cl, RelL (allΦ w) (cs.drop o) cl ∧ TyS (TyL T n) gs cl ∧ o + cl.length = tot := by
            intro gs
            induction gs with
            | nil =>
              intro o _ _ h1 h2
              simp only [tile, Option.some.injEq] at h1
              refine ⟨[], ?_, rfl, by simp [h1]⟩
              rw [List.drop_eq_nil_of_le (by omega)]
              trivial
            | cons f gs ihs =>
              intro o hall' hsup h1 h2
              obtain ⟨fo, ft⟩ := f
              rw [tile] at h1
              cases hbe : Nat.beq fo o with
              | false => rw [hbe] at h1; cases h1
              | true =>
                have := Nat.eq_of_beq_eq_true hbe
                subst this
                rw [hbe, cond_true] at h1
                cases htf : T ft with
                | none => rw [htf] at h1; cases h1
                | some tf =>
                  rw [htf] at h1
                  simp only [Option.bind_some] at h1
                  simp only [List.all_cons, Bool.and_eq_true] at hsup
                  obtain ⟨y, hy⟩ := hall' _ (List.mem_cons_self ..)
                  obtain ⟨c1, a1, a2, a3⟩ := ih ft m _ y (by omega) hsup.1 hy
                  obtain ⟨c2, b1, b2, b3⟩ := ihs (fo + tf.sz) (fun g hg => hall' g (List.mem_cons_of_mem _ hg)) hsup.2 h1 h2
                  have hl1 := a3 tf htf
                  refine ⟨c1 ++ c2, ?_, ⟨c1, c2, rfl, a2, b2⟩, by simp; omega⟩
                  have e : cs.drop fo = (cs.drop fo).take tf.sz ++ cs.drop (fo + tf.sz) := by
                    rw [← List.drop_drop, List.take_append_drop]
                  rw [e]
                  rw [cellsOf_ti hT htf] at a1
                  exact a1.append b1
          obtain ⟨cl, c1, c2, c3⟩ := main fs 0 hall hs2 htl (by rw [hlen, hz, htot])
          refine ⟨cl, by simpa using c1, c2, fun tj hj => ?_⟩
          obtain rfl := Option.some.inj hj
          omega
      | array k e => rw [hkd] at hs; cases hs
      | ptr e => rw [hkd] at hs; cases hs
      | map k e => rw [hkd] at hs; cases hs
      | func => rw [hkd] at hs; cases hs
      | iface => rw [hkd] at hs; cases hs
      | other => rw [hkd] at hs; cases hs
/-- A slice that came in. -/
theorem readR_slice {H : Type} {enc : TypeId × Value → H} {w : World} {base b0 : Nat} {spare : Nat → Bool} {held : Bool} {r : Reach} {t e : Nat} {v : Value} {d : DataW H} {ps : List MemPlace} {S : List Nat} (hS : closedB T S = true) (hm : t ∈ S) (hu : P.underlying t = some (.slice e))
    (hval : Value.okWide P w r b0 t v) (hd : DataW.Trod enc P w base spare held t v d ps) : ∃ n c, Rel (allΦ w) v c ∧ TyL T n t [c] := by
  obtain ⟨a, len, cap, rfl⟩ := okWide_slice hu hval
  obtain ⟨fuel, hf⟩ := hd
  obtain ⟨cl, h1, h2, _⟩ := readR hT fuel t fuel _ _ (Nat.le_refl _) (supR_closed hS _ _ hm) hf
  simp only [Value.cells] at h1
  match cl, h1, h2 with
  | [c], h1, h2 => exact ⟨_, c, h1.1, h2⟩
/-- A struct that came in. -/
theorem readR_struct {H : Type} {enc : TypeId × Value → H} {w : World} {base b0 : Nat} {spare : Nat → Bool} {held : Bool} {r : Reach} {t : Nat} {fs : Array Field} {v : Value} {d : DataW H} {ps : List MemPlace} {S : List Nat} (hS : closedB T S = true) (hm : t ∈ S) (hu : P.underlying t = some (.struct fs))
    (hval : Value.okWide P w r b0 t v) (hd : DataW.Trod enc P w base spare held t v d ps) : ∃ n cs, PRel (allΦ w) v (.agg cs) ∧ TyL T n t cs := by
  obtain ⟨arr, rfl, _⟩ := okWide_struct hu hval
  obtain ⟨fuel, hf⟩ := hd
  obtain ⟨cl, h1, h2, _⟩ := readR hT fuel t fuel _ _ (Nat.le_refl _) (supR_closed hS _ _ hm) hf
  exact ⟨_, cl, ⟨arr, rfl, h1⟩, h2⟩
end
end Lf
end
section
namespace Go.Proofs.Ytjedkgogjehigaa
open Lf Go
theorem exp_of : ∀ (n : Nat) {cs : List Cell}, TyL TY n 25 cs → ∃ e : Exp, cs = encX e ∧ OkE e
  | 0, cs, h => h.elim
  | 1, cs, h => by
    obtain ⟨a1, b1, rfl, t1, -⟩ : ∃ a1 b1, cs = a1 ++ b1 ∧ TyL TY 0 3 a1 ∧ True := by
      obtain ⟨a1, b1, h1, h2, _⟩ := h; exact ⟨a1, b1, h1, h2, trivial⟩
    exact t1.elim
  | n + 2, cs, h => by
    obtain ⟨a1, b1, rfl, t1, a2, b2, rfl, t2, a3, b3, rfl, t3, a4, b4, rfl, t4, a5, b5, rfl, t5, rfl⟩ : ∃ a1 b1, cs = a1 ++ b1 ∧ TyL TY (n + 1) 3 a1 ∧ ∃ a2 b2, b1 = a2 ++ b2 ∧ TyL TY (n + 1) 3 a2 ∧ ∃ a3 b3, b2 = a3 ++ b3 ∧ TyL TY (n + 1) 3 a3 ∧ ∃ a4 b4, b3 = a4 ++ b4 ∧ TyL TY (n + 1) 9 a4 ∧ ∃ a5 b5, b4 = a5 ++ b5 ∧ TyL TY (n + 1) 23 a5 ∧ b5 = [] := h
    obtain ⟨i1, rfl, _⟩ : ∃ i, a1 = [.int .i64 i] ∧ (Lit.int .i64 i).wf = true := t1
    obtain ⟨i2, rfl, _⟩ : ∃ i, a2 = [.int .i64 i] ∧ (Lit.int .i64 i).wf = true := t2
    obtain ⟨i3, rfl, _⟩ : ∃ i, a3 = [.int .i64 i] ∧ (Lit.int .i64 i).wf = true := t3
    obtain ⟨s, rfl, hs⟩ : ∃ s, a4 = [.str s] ∧ s.length ≤ maxLen := t4
    obtain ⟨rows, rfl, hl, hr⟩ : ∃ rows, a5 = [Cell.sl rows] ∧ rows.length ≤ maxLen ∧ ∀ r ∈ rows, TyL TY n 25 r := t5
    obtain ⟨l, rfl, ho⟩ := rows_map (f := encX) (p := OkE) fun r hr' => exp_of n (hr r hr')
    refine ⟨.mk i1 i2 i3 s l, ?_, .mk (by unfold maxLen at hs; omega) (by simp only [List.length_map] at hl; unfold maxLen at hl; omega) ho⟩
    have := aE_mk i1 i2 i3 s l
    injection this with this
    exact this.symm
theorem let_of : ∀ (n : Nat) {cs : List Cell}, TyL TY n 56 cs → ∃ x : Let, cs = encL x ∧ OkE x.body
  | 0, cs, h => h.elim
  | 1, cs, h => by
    obtain ⟨a1, b1, rfl, t1, -⟩ : ∃ a1 b1, cs = a1 ++ b1 ∧ TyL TY 0 9 a1 ∧ True := by
      obtain ⟨a1, b1, h1, h2, _⟩ := h; exact ⟨a1, b1, h1, h2, trivial⟩
    exact t1.elim
  | n + 2, cs, h => by
    obtain ⟨a1, b1, rfl, t1, a2, b2, rfl, t2, rfl⟩ : ∃ a1 b1, cs = a1 ++ b1 ∧ TyL TY (n + 1) 9 a1 ∧ ∃ a2 b2, b1 = a2 ++ b2 ∧ TyL TY (n + 1) 25 a2 ∧ b2 = [] := h
    obtain ⟨s, rfl, hs⟩ : ∃ s, a1 = [.str s] ∧ s.length ≤ maxLen := t1
    obtain ⟨e, rfl, he⟩ := exp_of _ t2
    exact ⟨⟨s, e⟩, rfl, he⟩
theorem lets_in : ∀ (n : Nat) {c : Cell}, TyL TY n 22 [c] → ∃ l : List Let, c = .sl (l.map encL) ∧ LIn l
  | 0, c, h => h.elim
  | n + 1, c, h => by
    obtain ⟨rows, h1, hl, h3⟩ : ∃ rows, [c] = [Cell.sl rows] ∧ rows.length ≤ maxLen ∧ ∀ r ∈ rows, TyL TY n 56 r := h
    obtain rfl := (List.cons.inj h1).1
    obtain ⟨l, rfl, ho⟩ := rows_map (f := encL) (p := fun y => OkE y.body) fun r hr => let_of n (h3 r hr)
    exact ⟨l, rfl, by simp only [List.length_map] at hl; unfold maxLen at hl; omega, ho⟩
theorem int_of1 {n : Nat} {cs : List Cell} (h : TyL TY (n + 1) 3 cs) : ∃ i : Int, cs = Lf.encI i ∧ True := by
  obtain ⟨i, rfl, _⟩ : ∃ i, cs = [.int .i64 i] ∧ (Lit.int .i64 i).wf = true := h
  exact ⟨i, rfl, trivial⟩
structure BV where
  s : Int
  l : List Int
abbrev encBV (b : BV) : List Cell := [.int .i64 b.s, .sl (b.l.map Lf.encI)]
theorem big_of {n : Nat} {cs : List Cell} (h : TyL TY (n + 3) 38 cs) : ∃ b : BV, cs = encBV b ∧ b.l.length ≤ 9223372036854775807 := by
  obtain ⟨a1, b1, rfl, t1, a2, b2, rfl, t2, rfl⟩ : ∃ a1 b1, cs = a1 ++ b1 ∧ TyL TY (n + 2) 3 a1 ∧ ∃ a2 b2, b1 = a2 ++ b2 ∧ TyL TY (n + 2) 36 a2 ∧ b2 = [] := h
  obtain ⟨s, rfl, _⟩ : ∃ i, a1 = [.int .i64 i] ∧ (Lit.int .i64 i).wf = true := t1
  obtain ⟨rows, rfl, hl, h3⟩ : ∃ rows, a2 = [Cell.sl rows] ∧ rows.length ≤ maxLen ∧ ∀ r ∈ rows, TyL TY (n + 1) 3 r := t2
  obtain ⟨l, rfl, _⟩ := rows_map (f := Lf.encI) (p := fun _ => True) fun r hr => int_of1 (h3 r hr)
  exact ⟨⟨s, l⟩, rfl, by simp only [List.length_map] at hl; unfold maxLen at hl; omega⟩
theorem fq_of {n : Nat} {cs : List Cell} (h : TyL TY (n + 4) 40 cs) : ∃ f : Fq, cs = encF f ∧ FqOk f := by
  obtain ⟨a1, b1, rfl, t1, a2, b2, rfl, t2, rfl⟩ : ∃ a1 b1, cs = a1 ++ b1 ∧ TyL TY (n + 3) 38 a1 ∧ ∃ a2 b2, b1 = a2 ++ b2 ∧ TyL TY (n + 3) 38 a2 ∧ b2 = [] := h
  obtain ⟨x, rfl, hx⟩ := big_of t1
  obtain ⟨y, rfl, hy⟩ := big_of t2
  exact ⟨⟨x.s, x.l, y.s, y.l⟩, rfl, hx, hy⟩
theorem fqs_of {n : Nat} {cs : List Cell} (h : TyL TY (n + 5) 27 cs) : ∃ l : List Fq, cs = [.sl (l.map encF)] ∧ l.length ≤ 9223372036854775807 ∧ ∀ q ∈ l, FqOk q := by
  obtain ⟨rows, rfl, hl, h3⟩ : ∃ rows, cs = [Cell.sl rows] ∧ rows.length ≤ maxLen ∧ ∀ r ∈ rows, TyL TY (n + 4) 40 r := h
  obtain ⟨l, rfl, hq⟩ := rows_map (f := encF) (p := fun f => FqOk f) fun r hr => fq_of (n := n) (h3 r hr)
  exact ⟨l, rfl, by simp only [List.length_map] at hl; unfold maxLen at hl; omega, hq⟩
theorem str_of {n : Nat} {cs : List Cell} (h : TyL TY (n + 1) 9 cs) : ∃ x : Str, cs = encS x ∧ True := by
  obtain ⟨s, rfl, _⟩ : ∃ s, cs = [.str s] ∧ s.length ≤ maxLen := h
  exact ⟨s, rfl, trivial⟩
theorem strs_of {n : Nat} {cs : List Cell} (h : TyL TY (n + 2) 26 cs) : ∃ l : List Str, cs = [.sl (l.map encS)] ∧ l.length ≤ 9223372036854775807 := by
  obtain ⟨rows, rfl, hl, h3⟩ : ∃ rows, cs = [Cell.sl rows] ∧ rows.length ≤ maxLen ∧ ∀ r ∈ rows, TyL TY (n + 1) 9 r := h
  obtain ⟨l, rfl, _⟩ := rows_map (f := encS) (p := fun _ => True) fun r hr => str_of (n := n) (h3 r hr)
  exact ⟨l, rfl, by simp only [List.length_map] at hl; unfold maxLen at hl; omega⟩
theorem env_in {cs : List Cell} (h : TyL TY 6 29 cs) : ∃ v : EnvV, cs = encEnv v ∧ v.Len := by
  obtain ⟨a1, b1, rfl, t1, a2, b2, rfl, t2, a3, b3, rfl, t3, a4, b4, rfl, t4, rfl⟩ : ∃ a1 b1, cs = a1 ++ b1 ∧ TyL TY 5 26 a1 ∧ ∃ a2 b2, b1 = a2 ++ b2 ∧ TyL TY 5 27 a2 ∧ ∃ a3 b3, b2 = a3 ++ b3 ∧ TyL TY 5 26 a3 ∧ ∃ a4 b4, b3 = a4 ++ b4 ∧ TyL TY 5 27 a4 ∧ b4 = [] := h
  obtain ⟨N, rfl, n1⟩ := strs_of (n := 3) t1
  obtain ⟨V, rfl, n2, o2⟩ := fqs_of (n := 0) t2
  obtain ⟨I, rfl, n3⟩ := strs_of (n := 3) t3
  obtain ⟨R, rfl, n4, o4⟩ := fqs_of (n := 0) t4
  exact ⟨⟨N, V, I, R⟩, rfl, ⟨n1, n2, n3, n4, o2, o4⟩⟩
theorem frac_in {cs : List Cell} (h : TyL TY 4 40 cs) : ∃ f : Fq, cs = encF f ∧ FqOk f := fq_of (n := 0) h
end Go.Proofs.Ytjedkgogjehigaa
end
section
namespace Go.Proofs.Ytjedkgogjehigaa
open Lf Go Go.ChangeShapes Go.WideShapes Go.ChangeAt Go.RowKit
namespace LazyRow
theorem own : ownKnob Try.prog.godebug = none := by kernel_rfl
theorem laidOut : laidOutB Try.prog = true := by kernel_rfl
set_option maxRecDepth 100000 in
theorem lifted (os : Os) (started : os.Started) (H : Type) (enc : TypeId × Value → H) :
    ReturnsInHanded {} Try.checked os 4 .any (Rows.evalLazySpec.pre6 enc Try.prog Try.f4 Rows.evalLazyRow.domain false) (Rows.evalLazySpec.post enc Try.prog Try.f4 false true false false) := by
  refine returnsInHanded_of_change (C := Try.checked) own started (by kernel_rfl) Try.func4
    (ChangeSpec.witness6 (enc := enc) (C := Try.checked) false ⟨#[], #[.slice none 0 0, .agg #[.int .i64 0, .int .i64 0, .int .i64 0, .string ⟨#[]⟩, .slice none 0 0], .agg #[.int .i64 0, .int .i64 0, .int .i64 0, .string ⟨#[]⟩, .slice none 0 0], .agg #[.int .i64 0, .int .i64 0, .int .i64 0, .string ⟨#[]⟩, .slice none 0 0], .agg #[.slice none 0 0, .slice none 0 0, .slice none 0 0, .slice none 0 0], .agg #[.int .i64 0, .slice none 0 0, .int .i64 0, .slice none 0 0]], []⟩ 8 (by kernel_rfl) (by kernel_rfl) (by kernel_rfl) (by kernel_rfl)) ?_
  intro W base args ds gs before hval0 hW hcnd _
  have hval : ∀ (j : Nat) t v, Try.f4.params[j]? = some t → args[j]? = some v → Value.okWide Try.prog W .any base t v := hval0
  have hW' := hW
  obtain ⟨p, q, hA0, hV, rfl, hfz, hnd⟩ := hW
  have hA : DataW.TrodAll enc Try.prog W 0 (fun _ => true) true Try.f4.params.toList args.toList ds p := hA0
  rw [Try.params4] at hA hval
  obtain ⟨v0, vs0, d0, ds0, p0, q0, hargs, rfl, rfl, h0, r0⟩ := trodAll_cons hA
  obtain ⟨v1, vs1, d1, ds1, p1, q1, rfl, rfl, rfl, h1, r1⟩ := trodAll_cons r0
  obtain ⟨v2, vs2, d2, ds2, p2, q2, rfl, rfl, rfl, h2, r2⟩ := trodAll_cons r1
  obtain ⟨v3, vs3, d3, ds3, p3, q3, rfl, rfl, rfl, h3, r3⟩ := trodAll_cons r2
  obtain ⟨v4, vs4, d4, ds4, p4, q4, rfl, rfl, rfl, h4, r4⟩ := trodAll_cons r3
  obtain ⟨v5, vs5, d5, ds5, p5, q5, rfl, rfl, rfl, h5, r5⟩ := trodAll_cons r4
  obtain ⟨rfl, rfl, rfl⟩ := trodAll_nil r5
  obtain rfl : args = #[v0, v1, v2, v3, v4, v5] := by cases args; simp_all
  obtain ⟨rfl, rfl⟩ := trodVars_none hV
  have k0 := h0
  have lt0 : ∀ x ∈ p0, x.block < W.heap.size := by obtain ⟨m, hm⟩ := k0; exact DataW.trod_lt m _ _ _ hm
  obtain ⟨n0, c0, rel0, ty0⟩ := readR_slice TYok (S := [22,56,25,23,9,3]) (by kernel_rfl) (by simp) Try.underlying22 (hval 0 22 v0 rfl rfl) h0
  obtain ⟨a0, rfl, w0⟩ := lets_in _ ty0
  have k1 := h1
  have lt1 : ∀ x ∈ p1, x.block < W.heap.size := by obtain ⟨m, hm⟩ := k1; exact DataW.trod_lt m _ _ _ hm
  obtain ⟨n1, c1, rel1, ty1⟩ := readR_struct TYok (S := [25,23,9,3]) (by kernel_rfl) (by simp) Try.underlying25 (hval 1 25 v1 rfl rfl) h1
  obtain ⟨a1, rfl, w1⟩ := exp_of _ ty1
  have k2 := h2
  have lt2 : ∀ x ∈ p2, x.block < W.heap.size := by obtain ⟨m, hm⟩ := k2; exact DataW.trod_lt m _ _ _ hm
  obtain ⟨n2, c2, rel2, ty2⟩ := readR_struct TYok (S := [25,23,9,3]) (by kernel_rfl) (by simp) Try.underlying25 (hval 2 25 v2 rfl rfl) h2
  obtain ⟨a2, rfl, w2⟩ := exp_of _ ty2
  have k3 := h3
  have lt3 : ∀ x ∈ p3, x.block < W.heap.size := by obtain ⟨m, hm⟩ := k3; exact DataW.trod_lt m _ _ _ hm
  obtain ⟨n3, c3, rel3, ty3⟩ := readR_struct TYok (S := [25,23,9,3]) (by kernel_rfl) (by simp) Try.underlying25 (hval 3 25 v3 rfl rfl) h3
  obtain ⟨a3, rfl, w3⟩ := exp_of _ ty3
  have k4 := h4
  have lt4 : ∀ x ∈ p4, x.block < W.heap.size := by obtain ⟨m, hm⟩ := k4; exact DataW.trod_lt m _ _ _ hm
  obtain ⟨c4, rel4, ty4⟩ := read_struct TYok 6 Try.underlying29 (by kernel_rfl) (hval 4 29 v4 rfl rfl) h4
  obtain ⟨a4, rfl, w4⟩ := env_in ty4
  have k5 := h5
  have lt5 : ∀ x ∈ p5, x.block < W.heap.size := by obtain ⟨m, hm⟩ := k5; exact DataW.trod_lt m _ _ _ hm
  obtain ⟨c5, rel5, ty5⟩ := read_struct TYok 4 Try.underlying40 (by kernel_rfl) (hval 5 40 v5 rfl rfl) h5
  obtain ⟨a5, rfl, w5⟩ := frac_in ty5
  clear hA0 hval0
  have hc := (lazy_ok w0 a1 a2 a3 w1 w2 w3 a4 w4 a5 w5).calls (allΦ W) W #[v0, v1, v2, v3, v4, v5] (fits_all W)
    (ArgsRel.of (ArgsL.cons rel0 (ArgsL.cons rel1 (ArgsL.cons rel2 (ArgsL.cons rel3 (ArgsL.cons rel4 (ArgsL.cons rel5 ArgsL.nil)))))))
  refine hc.mono fun e W' ⟨v, Φ', he, hv, _, _, _, bel⟩ => ?_
  subst he
  obtain rfl : v = .bool true := AVRel.bool hv
  exact ⟨_, rfl, _, _, _, [], _, [], hW', trodAll_mk1 (shut_bool Try.underlying4 _), (trodAll_cons_mk (Below.trod laidOut (by kernel_rfl) (of_decide_eq_true (by kernel_rfl)) k0 bel lt0) (trodAll_cons_mk (Below.trod laidOut (by kernel_rfl) (of_decide_eq_true (by kernel_rfl)) k1 bel lt1) (trodAll_cons_mk (Below.trod laidOut (by kernel_rfl) (of_decide_eq_true (by kernel_rfl)) k2 bel lt2) (trodAll_cons_mk (Below.trod laidOut (by kernel_rfl) (of_decide_eq_true (by kernel_rfl)) k3 bel lt3) (trodAll_cons_mk (Below.trod laidOut (by kernel_rfl) (of_decide_eq_true (by kernel_rfl)) k4 bel lt4) (trodAll_cons_mk (Below.trod laidOut (by kernel_rfl) (of_decide_eq_true (by kernel_rfl)) k5 bel lt5) trodAll_mk0)))))), rfl, bel.frame _, fun h => by cases h⟩
theorem over : Rows.evalLazyRow.holds Try.pinned (OpenSpec.ofChange Rows.evalLazySpec) :=
  OpenClaim.holds_of_wide 4 Try.f4 rfl rfl rfl rfl rfl rfl rfl ⟨rfl, rfl, rfl, rfl, rfl⟩ rfl rfl rfl rfl rfl (by kernel_rfl) Try.func4 (by kernel_rfl)
    (of_decide_eq_true (by kernel_rfl)) (by unfold Func.isWrapper; first | (rw [if_pos (by decide +kernel)]; kernel_rfl) | (rw [if_neg (by decide +kernel)]; exact ⟨rfl, rfl⟩))
    (fun os started H enc _ => lifted os started H enc)
end LazyRow
theorem evalLazy_proved : Rows.EvalLazySaid := LazyRow.over
end Go.Proofs.Ytjedkgogjehigaa
end
