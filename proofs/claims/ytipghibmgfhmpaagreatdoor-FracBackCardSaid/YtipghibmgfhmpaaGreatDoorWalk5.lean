/-
  Digits: long division.
-/
import Derived.Test.YtipghibmgfhmpaaGreatDoorWalk4
import Derived.Test.YtipghibmgfhmpaaGreatDoorLfBig
set_option linter.unusedVariables false
set_option linter.unusedSimpArgs false
set_option maxHeartbeats 8000000
namespace Go.Proofs.YtipghibmgfhmpaaGreatDoor
open Lf Go
attribute [local irreducible] PureOp EffOp Ev RG W Then InBlock Lf.Fin nth App InitE Pick SubE SubF SubG EvL EvD EvP EvR ResL Lf.Lex SubR SubBR RA RAll EvC FinO FinM ResM FinB ResD FinS val pw digs trimL

theorem norm_top {b : List Int} (nb : Norm b) (h : b ≠ []) : 0 < nth b (b.length - 1) ∧ nth b (b.length - 1) < 1048576 := by
  have h1 := nb.top
  rw [topD_nth b h] at h1
  have := nb.dig.nth (show b.length - 1 < b.length by have := List.length_pos_iff.2 h; omega)
  omega
theorem div_lt (a b : List Int) (na : Norm a) (nb : Norm b) (hl : a.length ≤ 100000) (hl' : b.length ≤ 100000) (hv : val a < val b) : ACalls Tryz.prog 82 [slI a, slI b] (.tup [slI (digs (val a / val b)), slI (digs (val a % val b))]) := by
  have h1 := compare_ok a b na nb (by omega) (by omega)
  rw [show cmpI (val a) (val b) = -1 from if_pos hv] at h1
  have h2 := clone_ok a (by omega)
  have h3 := val_lo na.dig
  rw [Int.ediv_eq_zero_of_lt h3 hv, Int.emod_eq_of_lt h3 hv, digs_zero, ← na.digs]
  refine ACalls.of_W (qs := [slI [], slI a]) [4, 5] 170 Tryz.func82 (by kernel_rfl) rfl rfl rfl fun G => ?_
  refine W.initA (hw := ?_)
  repeat' (first
    | ((first | apply U_ | (apply Ug_; exact rfl; exact rfl) | (apply Ugq_; exact rfl; exact rfl) | apply Lex.u | (apply Lex.g; exact rfl; exact rfl) | (apply Lex.gq; exact rfl; exact rfl)); (first
    | exact QX.Move TYok
    | exact QX.Asg TYok
    | exact QX.Ld TYok
    | exact QX.Bin TYok
    | exact QX.Pick TYok
    | exact QX.Len TYok
    | exact QX.Idx TYok
    | exact QX.Ext TYok
    | exact QX.Cut TYok
    | (apply Q_call (h1); exact EvL.auto; exact rfl)); exact rfl)
    | refine SX.Store TYok (h := ?_)
    | refine SX.Lit TYok (h := ?_)
    | refine SX.Make TYok (h := ?_)
    | refine SX.App TYok (h := ?_)
    | (apply S_callo (h2); exact rfl; exact rfl; exact rfl; exact EvD.auto)
    | apply RG.nil
    | apply Lex.nil
    | apply Then.n
    | apply Then.r
    | apply Then.x
    | apply InBlock.n
    | apply InBlock.r
    | apply InBlock.hit
    | (apply InBlock.miss; exact rfl)
    | apply W.seq
    | apply W.region
    | apply W.block
    | apply W.skip
    | apply W.ret
    | apply W.exit
    | (apply S_isnil TYok; exact rfl; exact rfl; exact rfl; exact Ev.auto; intro bn hnil)
    | (apply RG.gT; exact rfl; exact rfl; (first | assumption | decide))
    | (apply RG.gF; exact rfl; exact rfl; (first | assumption | decide | (rw [ne_eq, Bool.not_eq_true]; assumption) | (rw [ne_eq, Bool.not_eq_false]; assumption)); exact rfl)
    | (apply W.draw2 (id := 17) [0, 0, 0, 6, 15, 31, 63, 0, 0, 0, 768, 1792, 3968, 8064, 16383, 32767] [[9], [13], [11], [84, 85], [83, 86], [87], [88], [9], [13], [11], [91, 92], [93], [90, 94], [95], [89, 96], [97]] 16 [(83, 512), (84, 8192), (85, 2048), (86, 58028439341502200385896448), (87, 87042659012253300578844672), (88, 154742504910672534362390528), (89, 309485009821345068724781056), (90, 512), (91, 8192), (92, 2048), (93, 7427640235712281649394745344), (94, 9903520314283042199192993792), (95, 21044980667851464673285111808), (96, 39614081257132168796771975168), (97, 79847132533907027730993512448), (14, 158456325028528675187087900672)] mixed (by kernel_rfl) rfl rfl)
    | (apply W.draw2 (id := 18) [0, 0, 0, 4, 14, 30, 63, 0, 0, 0, 512, 1792, 3840, 8064, 127, 32767] [[14], [10], [11], [100], [99, 101], [102], [98, 103], [14], [10], [11], [107], [106, 108], [109], [105, 110], [104], [111]] 16 [(98, 16384), (99, 1024), (100, 2048), (101, 1267650600228229401496703205376), (102, 3169126500570573503741758013440), (103, 5070602400912917605986812821504), (104, 10458117451882892562347801444352), (105, 16384), (106, 1024), (107, 2048), (108, 162259276829213363391578010288128), (109, 405648192073033408478945025720320), (110, 649037107316853453566312041152512), (111, 1338639033841010247980518584877056), (15, 20282409603651670423947251286016), (16, 2596148429267413814265248164610048)] mixed (by kernel_rfl) rfl rfl)
    | (apply W.draw2 (id := 19) [0, 1, 3, 7, 15, 31, 63, 63, 63, 319, 959, 1983, 4095, 63, 8255, 63, 63, 63, 196671, 458815, 1015871, 2064447, 4186175, 8388607, 16777215, 33554431] [[15], [112], [113], [16, 114], [115, 114], [116, 114], [15, 117], [10, 117], [11, 117], [120, 117], [119, 121, 117], [122, 117], [118, 123, 117], [16, 117], [125, 117], [9, 117], [13, 117], [11, 117], [128, 129, 117], [130, 117], [127, 131, 117], [132, 117], [126, 133, 117], [124, 134, 117], [117, 135, 114], [114, 136]] 26 [(112, 32768), (113, 5192296858534827628530496329220096), (114, 10384593717069655257060992658440192), (115, 20769187434139310514121985316945920), (116, 62307562302417931542365955950641152), (117, 103845937170696552570609926584401920), (118, 166153499473114484112975882535075840), (119, 166153499473114484112975882535044096), (120, 166153499473114484112975882535045120), (121, 1495381495258030357016782942815387648), (122, 3489223488935404166372493533235904512), (123, 5483065482612777975728204123656421376), (124, 11132284464698670435569384129847885824), (125, 166153499473114484112975882535108608), (126, 42701449364590422417034801811506069504), (127, 166153499473114484112975882535043584), (128, 166153499473114484112975882535051264), (129, 166153499473114484112975882535045120), (130, 1021013254262288504874236798177839677440), (131, 1361295621183226968337611405609607888896), (132, 2892566272327450053922797139052564840448), (133, 5444684024234488529898106694790826426368), (134, 10974272486699738561177944065557059862528), (135, 21799505284372093430106548764480186089472), (136, 43556329888567030577106576849134182989824), (137, 87112306700947680785934413624517979013120)] mixed (by kernel_rfl) rfl rfl)
    | (refine W.condA (ht := fun hb => ?_) (hf := fun hb => ?_) <;> (try simp at hb) <;> (try (exfalso; omega))))
  exact Fin.ret ResL.auto
theorem cmp_ge {x y : Int} (h : y ≤ x) : 0 ≤ cmpI x y := by
  unfold cmpI; rw [if_neg (by omega)]; split <;> omega
theorem div_one (a b : List Int) (na : Norm a) (nb : Norm b) (hl : a.length ≤ 100000) (hl' : b.length = 1) (hv : val b ≤ val a) : ACalls Tryz.prog 82 [slI a, slI b] (.tup [slI (digs (val a / val b)), slI (digs (val a % val b))]) := by
  have h1 := compare_ok a b na nb (by omega) (by omega)
  have hc := cmp_ge hv
  generalize cmpI (val a) (val b) = c at h1 hc
  obtain ⟨d, rfl⟩ : ∃ d, b = [d] := by
    cases b with
    | nil => simp at hl'
    | cons d r => cases r with
      | nil => exact ⟨d, rfl⟩
      | cons x y => simp at hl'
  have hd := nb.dig.hd
  have ht := nb.top
  simp only [topD] at ht
  have h2 := short_ok a d na.dig (by omega) (by omega)
  rw [val_one]
  have hr := Int.emod_nonneg (val a) (show d ≠ 0 by omega)
  have hr2 := Int.emod_lt_of_pos (val a) (show 0 < d by omega)
  have h3 : ACalls Tryz.prog 80 [slI [val a % d]] (.pv (slI (digs (val a % d)))) := by
    rw [← trim_eq (l := [val a % d]) (Dig.cons (by omega) Dig.nil) (val_one _)]
    exact trim_ok _ (by simp)
  have e0 : nth [d] 0 = d := by simp [nth]
  generalize digs (val a / d) = q at h2 ⊢
  generalize val a % d = r at h2 h3 ⊢
  replace h2 : ACalls Tryz.prog 87 [slI a, cI (nth [d] 0)] (.tup [slI q, cI r]) := by rw [e0]; exact h2
  refine ACalls.of_W (qs := [slI q, slI (digs r)]) [4, 5] 170 Tryz.func82 (by kernel_rfl) rfl rfl rfl fun G => ?_
  refine W.initA (hw := ?_)
  repeat' (first
    | (refine RG.weaken (Le.freeze1 (m := 38) rfl) ?_)
    | ((first | apply U_ | (apply Ug_; exact rfl; exact rfl) | (apply Ugq_; exact rfl; exact rfl) | apply Lex.u | (apply Lex.g; exact rfl; exact rfl) | (apply Lex.gq; exact rfl; exact rfl)); (first
    | exact QX.Move TYok
    | exact QX.Asg TYok
    | exact QX.Ld TYok
    | exact QX.Bin TYok
    | exact QX.Pick TYok
    | exact QX.Len TYok
    | exact QX.Idx TYok
    | exact QX.Ext TYok
    | exact QX.Cut TYok
    | (apply Q_call (h1); exact EvL.auto; exact rfl)
    | (apply Q_calld (h2); exact EvD.auto)
    | (apply Q_calld (h3); exact EvD.auto)); exact rfl)
    | refine SX.Store TYok (h := ?_)
    | refine SX.Lit TYok (h := ?_)
    | refine SX.Make TYok (h := ?_)
    | refine SX.App TYok (h := ?_)
    | apply RG.nil
    | apply Lex.nil
    | apply Then.n
    | apply Then.r
    | apply Then.x
    | apply InBlock.n
    | apply InBlock.r
    | apply InBlock.hit
    | (apply InBlock.miss; exact rfl)
    | apply W.seq
    | apply W.region
    | apply W.block
    | apply W.skip
    | apply W.ret
    | apply W.exit
    | (apply S_isnil TYok; exact rfl; exact rfl; exact rfl; exact Ev.auto; intro bn hnil)
    | (apply RG.gT; exact rfl; exact rfl; (first | assumption | decide))
    | (apply RG.gF; exact rfl; exact rfl; (first | assumption | decide | (rw [ne_eq, Bool.not_eq_true]; assumption) | (rw [ne_eq, Bool.not_eq_false]; assumption)); exact rfl)
    | (apply W.draw2 (id := 17) [0, 0, 0, 6, 15, 31, 63, 0, 0, 0, 768, 1792, 3968, 8064, 16383, 32767] [[9], [13], [11], [84, 85], [83, 86], [87], [88], [9], [13], [11], [91, 92], [93], [90, 94], [95], [89, 96], [97]] 16 [(83, 512), (84, 8192), (85, 2048), (86, 58028439341502200385896448), (87, 87042659012253300578844672), (88, 154742504910672534362390528), (89, 309485009821345068724781056), (90, 512), (91, 8192), (92, 2048), (93, 7427640235712281649394745344), (94, 9903520314283042199192993792), (95, 21044980667851464673285111808), (96, 39614081257132168796771975168), (97, 79847132533907027730993512448), (14, 158456325028528675187087900672)] mixed (by kernel_rfl) rfl rfl)
    | (apply W.draw2 (id := 18) [0, 0, 0, 4, 14, 30, 63, 0, 0, 0, 512, 1792, 3840, 8064, 127, 32767] [[14], [10], [11], [100], [99, 101], [102], [98, 103], [14], [10], [11], [107], [106, 108], [109], [105, 110], [104], [111]] 16 [(98, 16384), (99, 1024), (100, 2048), (101, 1267650600228229401496703205376), (102, 3169126500570573503741758013440), (103, 5070602400912917605986812821504), (104, 10458117451882892562347801444352), (105, 16384), (106, 1024), (107, 2048), (108, 162259276829213363391578010288128), (109, 405648192073033408478945025720320), (110, 649037107316853453566312041152512), (111, 1338639033841010247980518584877056), (15, 20282409603651670423947251286016), (16, 2596148429267413814265248164610048)] mixed (by kernel_rfl) rfl rfl)
    | (apply W.draw2 (id := 19) [0, 1, 3, 7, 15, 31, 63, 63, 63, 319, 959, 1983, 4095, 63, 8255, 63, 63, 63, 196671, 458815, 1015871, 2064447, 4186175, 8388607, 16777215, 33554431] [[15], [112], [113], [16, 114], [115, 114], [116, 114], [15, 117], [10, 117], [11, 117], [120, 117], [119, 121, 117], [122, 117], [118, 123, 117], [16, 117], [125, 117], [9, 117], [13, 117], [11, 117], [128, 129, 117], [130, 117], [127, 131, 117], [132, 117], [126, 133, 117], [124, 134, 117], [117, 135, 114], [114, 136]] 26 [(112, 32768), (113, 5192296858534827628530496329220096), (114, 10384593717069655257060992658440192), (115, 20769187434139310514121985316945920), (116, 62307562302417931542365955950641152), (117, 103845937170696552570609926584401920), (118, 166153499473114484112975882535075840), (119, 166153499473114484112975882535044096), (120, 166153499473114484112975882535045120), (121, 1495381495258030357016782942815387648), (122, 3489223488935404166372493533235904512), (123, 5483065482612777975728204123656421376), (124, 11132284464698670435569384129847885824), (125, 166153499473114484112975882535108608), (126, 42701449364590422417034801811506069504), (127, 166153499473114484112975882535043584), (128, 166153499473114484112975882535051264), (129, 166153499473114484112975882535045120), (130, 1021013254262288504874236798177839677440), (131, 1361295621183226968337611405609607888896), (132, 2892566272327450053922797139052564840448), (133, 5444684024234488529898106694790826426368), (134, 10974272486699738561177944065557059862528), (135, 21799505284372093430106548764480186089472), (136, 43556329888567030577106576849134182989824), (137, 87112306700947680785934413624517979013120)] mixed (by kernel_rfl) rfl rfl)
    | (refine W.condA (ht := fun hb => ?_) (hf := fun hb => ?_) <;> (try simp at hb) <;> (try (exfalso; omega))))
  exact Fin.ret ResL.auto
theorem shift_le {x s : Int} (hx : 0 < x ∧ x < 1048576) (hs : 1 ≤ s ∧ s < 1048576) : x ≤ x * s ∧ s ≤ x * s ∧ x * s ≤ 1099509530625 := by
  have h1 := mul_le ⟨by omega, hx.2⟩ ⟨by omega, hs.2⟩
  have h2 : x * 1 ≤ x * s := Int.mul_le_mul_of_nonneg_left hs.1 (by omega)
  have h3 : 1 * s ≤ x * s := Int.mul_le_mul_of_nonneg_right (by omega) (by omega)
  omega
theorem shift_len {a : List Int} (na : Norm a) (ha : a ≠ []) {s : Int} (hs : 1 ≤ s ∧ s < 1048576) : (digs (val a * s)).length ≤ a.length + 1 ∧ a.length ≤ (digs (val a * s)).length ∧ val a ≤ val a * s := by
  have h0 := val_lo na.dig
  have h1 : val a * 1 ≤ val a * s := Int.mul_le_mul_of_nonneg_left hs.1 h0
  have h2 : val a * s ≤ val a * 1048576 := Int.mul_le_mul_of_nonneg_left (by omega) h0
  have h3 := val_hi na.dig
  have h4 := na.lo ha
  refine ⟨(digs_len (by omega)).2 (by rw [pw]; omega), ?_, by omega⟩
  have h5 := val_hi (digs_norm (val a * s)).dig
  rw [val_digs (by omega)] at h5
  have := pw_inj (show pw (a.length - 1) < pw (digs (val a * s)).length by omega)
  omega
theorem div_long (a b : List Int) (na : Norm a) (nb : Norm b) (hl : a.length ≤ 100000) (hb2 : 2 ≤ b.length) (hv : val b ≤ val a) : ACalls Tryz.prog 82 [slI a, slI b] (.tup [slI (digs (val a / val b)), slI (digs (val a % val b))]) := by
  have hbl : b.length ≤ a.length := by
    have h1 := nb.lo (by rintro rfl; simp at hb2)
    have h2 := val_hi na.dig
    have := pw_inj (show pw (b.length - 1) < pw a.length by omega)
    omega
  have h1 := compare_ok a b na nb (by omega) (by omega)
  have hc := cmp_ge hv
  generalize cmpI (val a) (val b) = c at h1 hc
  have hbt := norm_top nb (by rintro rfl; simp at hb2)
  refine ACalls.of_W (qs := [slI (digs (val a / val b)), slI (digs (val a % val b))]) [4, 5] 170 Tryz.func82 (by kernel_rfl) rfl rfl rfl fun G => ?_
  refine W.initA (hw := ?_)
  repeat' (first
    | ((first | apply U_ | (apply Ug_; exact rfl; exact rfl) | (apply Ugq_; exact rfl; exact rfl) | apply Lex.u | (apply Lex.g; exact rfl; exact rfl) | (apply Lex.gq; exact rfl; exact rfl)); (first
    | exact QX.Move TYok
    | exact QX.Asg TYok
    | exact QX.Ld TYok
    | exact QX.Bin TYok
    | exact QX.Pick TYok
    | exact QX.Len TYok
    | exact QX.Idx TYok
    | exact QX.Ext TYok
    | exact QX.Cut TYok
    | (apply Q_call (h1); exact EvL.auto; exact rfl)); exact rfl)
    | refine SX.Store TYok (h := ?_)
    | refine SX.Lit TYok (h := ?_)
    | refine SX.Make TYok (h := ?_)
    | refine SX.App TYok (h := ?_)
    | apply RG.nil
    | apply Lex.nil
    | apply Then.n
    | apply Then.r
    | apply Then.x
    | apply InBlock.n
    | apply InBlock.r
    | apply InBlock.hit
    | (apply InBlock.miss; exact rfl)
    | apply W.seq
    | apply W.region
    | apply W.block
    | apply W.skip
    | apply W.ret
    | apply W.exit
    | (apply S_isnil TYok; exact rfl; exact rfl; exact rfl; exact Ev.auto; intro bn hnil)
    | (apply RG.gT; exact rfl; exact rfl; (first | assumption | decide))
    | (apply RG.gF; exact rfl; exact rfl; (first | assumption | decide | (rw [ne_eq, Bool.not_eq_true]; assumption) | (rw [ne_eq, Bool.not_eq_false]; assumption)); exact rfl)
    | (apply W.draw2 (id := 17) [0, 0, 0, 6, 15, 31, 63, 0, 0, 0, 768, 1792, 3968, 8064, 16383, 32767] [[9], [13], [11], [84, 85], [83, 86], [87], [88], [9], [13], [11], [91, 92], [93], [90, 94], [95], [89, 96], [97]] 16 [(83, 512), (84, 8192), (85, 2048), (86, 58028439341502200385896448), (87, 87042659012253300578844672), (88, 154742504910672534362390528), (89, 309485009821345068724781056), (90, 512), (91, 8192), (92, 2048), (93, 7427640235712281649394745344), (94, 9903520314283042199192993792), (95, 21044980667851464673285111808), (96, 39614081257132168796771975168), (97, 79847132533907027730993512448), (14, 158456325028528675187087900672)] mixed (by kernel_rfl) rfl rfl)
    | (apply W.draw2 (id := 18) [0, 0, 0, 4, 14, 30, 63, 0, 0, 0, 512, 1792, 3840, 8064, 127, 32767] [[14], [10], [11], [100], [99, 101], [102], [98, 103], [14], [10], [11], [107], [106, 108], [109], [105, 110], [104], [111]] 16 [(98, 16384), (99, 1024), (100, 2048), (101, 1267650600228229401496703205376), (102, 3169126500570573503741758013440), (103, 5070602400912917605986812821504), (104, 10458117451882892562347801444352), (105, 16384), (106, 1024), (107, 2048), (108, 162259276829213363391578010288128), (109, 405648192073033408478945025720320), (110, 649037107316853453566312041152512), (111, 1338639033841010247980518584877056), (15, 20282409603651670423947251286016), (16, 2596148429267413814265248164610048)] mixed (by kernel_rfl) rfl rfl)
    | (apply W.draw2 (id := 19) [0, 1, 3, 7, 15, 31, 63, 63, 63, 319, 959, 1983, 4095, 63, 8255, 63, 63, 63, 196671, 458815, 1015871, 2064447, 4186175, 8388607, 16777215, 33554431] [[15], [112], [113], [16, 114], [115, 114], [116, 114], [15, 117], [10, 117], [11, 117], [120, 117], [119, 121, 117], [122, 117], [118, 123, 117], [16, 117], [125, 117], [9, 117], [13, 117], [11, 117], [128, 129, 117], [130, 117], [127, 131, 117], [132, 117], [126, 133, 117], [124, 134, 117], [117, 135, 114], [114, 136]] 26 [(112, 32768), (113, 5192296858534827628530496329220096), (114, 10384593717069655257060992658440192), (115, 20769187434139310514121985316945920), (116, 62307562302417931542365955950641152), (117, 103845937170696552570609926584401920), (118, 166153499473114484112975882535075840), (119, 166153499473114484112975882535044096), (120, 166153499473114484112975882535045120), (121, 1495381495258030357016782942815387648), (122, 3489223488935404166372493533235904512), (123, 5483065482612777975728204123656421376), (124, 11132284464698670435569384129847885824), (125, 166153499473114484112975882535108608), (126, 42701449364590422417034801811506069504), (127, 166153499473114484112975882535043584), (128, 166153499473114484112975882535051264), (129, 166153499473114484112975882535045120), (130, 1021013254262288504874236798177839677440), (131, 1361295621183226968337611405609607888896), (132, 2892566272327450053922797139052564840448), (133, 5444684024234488529898106694790826426368), (134, 10974272486699738561177944065557059862528), (135, 21799505284372093430106548764480186089472), (136, 43556329888567030577106576849134182989824), (137, 87112306700947680785934413624517979013120)] mixed (by kernel_rfl) rfl rfl)
    | (refine W.condA (ht := fun hb => ?_) (hf := fun hb => ?_) <;> (try simp at hb) <;> (try (exfalso; omega))))
  apply W.loopP (σ := Int) 170 [0, 1] (fun s => 1 ≤ s ∧ s < 1048576) (fun s => [(8, vI s)]) (fun _ => []) (fun s => (1048576 - s).toNat) (1)
  case hp => repeat (first | exact Pick.nil | apply Pick.cons rfl)
  case h0 =>
    refine ⟨by omega, ?_⟩
    exact Le.auto
  case round =>
    intro s hs
    have hs2 := shift_le hbt hs
    have hs3 : 0 ≤ nth b ((b.length : Int) - 1).toNat * s ∧ s ≤ nth b ((b.length : Int) - 1).toNat * s ∧ nth b ((b.length : Int) - 1).toNat * s ≤ 1099509530625 := by
      rw [show ((b.length : Int) - 1).toNat = b.length - 1 by omega]; omega
    have m1 := mul_own a [s] na.dig (Dig.cons (by omega) Dig.nil) (by omega) (by simp) (by simp)
    have m2 := mul_ok b [s] nb.dig (Dig.cons (by omega) Dig.nil) (by omega) (by simp)
    rw [val_one] at m1 m2
    have l1 := shift_len na (fun h => by rw [h] at hbl; simp only [List.length_nil] at hbl; omega) hs
    have l2 := shift_len nb (by rintro rfl; simp at hb2) hs
    have hrow : (digs (val a * s)).map encI ++ [[Cell.int .i64 0]] = (digs (val a * s) ++ [0]).map encI := by simp [encI]
    have hAV : val b * s ≤ val a * s := Int.mul_le_mul_of_nonneg_right hv (by omega)
    have dD := digs_norm (val a * s)
    have eD : val (digs (val a * s)) = val a * s := val_digs (by have := val_lo na.dig; omega)
    have dV := digs_norm (val b * s)
    have eV : val (digs (val b * s)) = val b * s := val_digs (by have := val_lo nb.dig; omega)
    generalize digs (val a * s) = D at *
    generalize digs (val b * s) = V at *
    have lVD : V.length ≤ D.length := by
      have := dV.lo (fun h => by rw [h, List.length_nil] at l2; omega)
      have := val_hi dD.dig
      have := pw_inj (show pw (V.length - 1) < pw D.length by omega)
      omega
    have hu : (D ++ [(0 : Int)]).length = D.length + 1 := by simp
    have hV2 : 2 ≤ V.length := by omega
    have hVpos := dV.pos (fun h => by rw [h, List.length_nil] at hV2; omega)
    have hVhi := val_hi dV.dig
    have hM : ∃ M : Nat, D.length + 1 = M + V.length := ⟨D.length + 1 - V.length, by omega⟩
    obtain ⟨M, hM⟩ := hM
    have hrl : (List.replicate M (0 : Int)).length = M := by simp
    have hrep : ∀ k : Nat, k = M → List.replicate k [Cell.int .i64 0] = (List.replicate M (0 : Int)).map encI := fun k hk => by subst hk; simp [encI]
    apply W.norm (by repeat (first | exact App.nil | apply App.cons))
    repeat' (first
      | (refine RG.weaken (Le.freeze1 (m := 53) rfl) ?_)
      | (refine RG.weaken (Le.freeze1 (m := 59) rfl) ?_)
      | (refine W.weaken (Le.rowsEq (n := 56) _ rfl rfl hrow) ?_; apply W.region (id := 10))
      | (refine W.weaken (Le.rowsEq (n := 75) _ rfl rfl (hrep _ (by omega))) ?_; apply W.region (id := 14))
      | ((first | apply U_ | (apply Ug_; exact rfl; exact rfl) | (apply Ugq_; exact rfl; exact rfl) | apply Lex.u | (apply Lex.g; exact rfl; exact rfl) | (apply Lex.gq; exact rfl; exact rfl)); (first
    | exact QX.Move TYok
    | exact QX.Asg TYok
    | exact QX.Ld TYok
    | exact QX.Bin TYok
    | exact QX.Pick TYok
    | exact QX.Len TYok
    | exact QX.Idx TYok
    | exact QX.Ext TYok
    | exact QX.Cut TYok
    | (apply Q_calld (m2); exact EvD.auto)); exact rfl)
      | refine SX.Store TYok (h := ?_)
      | refine SX.Lit TYok (h := ?_)
      | refine SX.Make TYok (h := ?_)
      | refine SX.App TYok (h := ?_)
      | (apply S_callo (m1); exact rfl; exact rfl; exact rfl; exact EvD.auto)
      | apply RG.nil
      | apply Lex.nil
      | apply Then.n
      | apply Then.r
      | apply Then.x
      | apply InBlock.n
      | apply InBlock.r
      | apply InBlock.hit
      | (apply InBlock.miss; exact rfl)
      | apply W.seq
      | apply W.region
      | apply W.block
      | apply W.skip
      | apply W.ret
      | apply W.exit
      | (apply S_isnil TYok; exact rfl; exact rfl; exact rfl; exact Ev.auto; intro bn hnil)
      | (apply RG.gT; exact rfl; exact rfl; (first | assumption | decide))
      | (apply RG.gF; exact rfl; exact rfl; (first | assumption | decide | (rw [ne_eq, Bool.not_eq_true]; assumption) | (rw [ne_eq, Bool.not_eq_false]; assumption)); exact rfl)
      | (apply W.draw2 (id := 17) [0, 0, 0, 6, 15, 31, 63, 0, 0, 0, 768, 1792, 3968, 8064, 16383, 32767] [[9], [13], [11], [84, 85], [83, 86], [87], [88], [9], [13], [11], [91, 92], [93], [90, 94], [95], [89, 96], [97]] 16 [(83, 512), (84, 8192), (85, 2048), (86, 58028439341502200385896448), (87, 87042659012253300578844672), (88, 154742504910672534362390528), (89, 309485009821345068724781056), (90, 512), (91, 8192), (92, 2048), (93, 7427640235712281649394745344), (94, 9903520314283042199192993792), (95, 21044980667851464673285111808), (96, 39614081257132168796771975168), (97, 79847132533907027730993512448), (14, 158456325028528675187087900672)] mixed (by kernel_rfl) rfl rfl)
      | (apply W.draw2 (id := 18) [0, 0, 0, 4, 14, 30, 63, 0, 0, 0, 512, 1792, 3840, 8064, 127, 32767] [[14], [10], [11], [100], [99, 101], [102], [98, 103], [14], [10], [11], [107], [106, 108], [109], [105, 110], [104], [111]] 16 [(98, 16384), (99, 1024), (100, 2048), (101, 1267650600228229401496703205376), (102, 3169126500570573503741758013440), (103, 5070602400912917605986812821504), (104, 10458117451882892562347801444352), (105, 16384), (106, 1024), (107, 2048), (108, 162259276829213363391578010288128), (109, 405648192073033408478945025720320), (110, 649037107316853453566312041152512), (111, 1338639033841010247980518584877056), (15, 20282409603651670423947251286016), (16, 2596148429267413814265248164610048)] mixed (by kernel_rfl) rfl rfl)
      | (apply W.draw2 (id := 19) [0, 1, 3, 7, 15, 31, 63, 63, 63, 319, 959, 1983, 4095, 63, 8255, 63, 63, 63, 196671, 458815, 1015871, 2064447, 4186175, 8388607, 16777215, 33554431] [[15], [112], [113], [16, 114], [115, 114], [116, 114], [15, 117], [10, 117], [11, 117], [120, 117], [119, 121, 117], [122, 117], [118, 123, 117], [16, 117], [125, 117], [9, 117], [13, 117], [11, 117], [128, 129, 117], [130, 117], [127, 131, 117], [132, 117], [126, 133, 117], [124, 134, 117], [117, 135, 114], [114, 136]] 26 [(112, 32768), (113, 5192296858534827628530496329220096), (114, 10384593717069655257060992658440192), (115, 20769187434139310514121985316945920), (116, 62307562302417931542365955950641152), (117, 103845937170696552570609926584401920), (118, 166153499473114484112975882535075840), (119, 166153499473114484112975882535044096), (120, 166153499473114484112975882535045120), (121, 1495381495258030357016782942815387648), (122, 3489223488935404166372493533235904512), (123, 5483065482612777975728204123656421376), (124, 11132284464698670435569384129847885824), (125, 166153499473114484112975882535108608), (126, 42701449364590422417034801811506069504), (127, 166153499473114484112975882535043584), (128, 166153499473114484112975882535051264), (129, 166153499473114484112975882535045120), (130, 1021013254262288504874236798177839677440), (131, 1361295621183226968337611405609607888896), (132, 2892566272327450053922797139052564840448), (133, 5444684024234488529898106694790826426368), (134, 10974272486699738561177944065557059862528), (135, 21799505284372093430106548764480186089472), (136, 43556329888567030577106576849134182989824), (137, 87112306700947680785934413624517979013120)] mixed (by kernel_rfl) rfl rfl)
      | (refine W.condA (ht := fun hb => ?_) (hf := fun hb => ?_) <;> (try simp at hb) <;> (try (exfalso; omega))))
    · refine ⟨s * 2, by omega, ?_, by omega⟩
      exact Le.auto
    apply W.loopP (σ := Nat × List Int × List Int) 170 [] (fun (i, U, Q) => i ≤ M ∧ DivI (val a * s) (val V) V.length M U Q i) (fun (i, U, Q) => [(13, vI ((i : Int) - 1)), (8, vI s), (9, (True, .slc 56)), (10, (True, .pv (slI V))), (11, vI V.length), (12, (True, .slc 75))]) (fun (i, U, Q) => [(56, ⟨3, 1, U.map encI⟩), (75, ⟨3, 1, Q.map encI⟩)]) (fun (i, U, Q) => i) ((M, D ++ [0], List.replicate M 0))
    case hp => repeat (first | exact Pick.nil | apply Pick.cons rfl)
    case h0 =>
      refine ⟨⟨Nat.le_refl _, ⟨by omega, dD.dig.app (Dig.cons (by omega) Dig.nil), by simp, Dig.rep _, ?_, ?_⟩⟩, ?_⟩
      · rw [List.drop_append_of_le_length (by omega), val_app]
        have h3 := val_hi (dD.dig.drop M)
        rw [List.length_drop, show D.length - M = V.length - 1 by omega] at h3
        have h4 := dV.lo (fun h => by rw [h, List.length_nil] at hV2; omega)
        simp only [val]
        omega
      · rw [val_app, eD, List.drop_of_length_le (by simp)]
        simp [val]
      · exact Le.auto
    case round =>
      rintro ⟨i, U, Q⟩ ⟨g1, g2⟩
      dsimp only at g1 g2 ⊢
      have gU := g2.ulen
      have gQ := g2.qlen
      apply W.norm (by repeat (first | exact App.nil | apply App.cons))
      cases i with
      | succ k =>
        have e1 : ((k + 1 : Nat) : Int) - 1 = k := by omega
        have hk : k < M := by omega
        rw [e1]
        have hw := g2.win hk dV rfl hV2
        have hwin := g2.window hk hVhi
        have hsm := g2.small
        have hq0 : 0 ≤ val (U.drop k) / val V := Int.ediv_nonneg (val_lo (g2.udig.drop k)) (by omega)
        have hqB : val (U.drop k) / val V < 1048576 := by
          refine Int.ediv_lt_of_lt_mul hVpos ?_
          rw [val_drop (by omega)]
          have := g2.udig.nth (show k < U.length by omega)
          omega
        have hqm := Int.emod_add_mul_ediv (val (U.drop k)) (val V)
        have hqr := Int.emod_nonneg (val (U.drop k)) (show val V ≠ 0 by omega)
        have hqr2 := Int.emod_lt_of_pos (val (U.drop k)) hVpos
        rw [Int.mul_comm] at hqm
        generalize val (U.drop k) / val V = q at hq0 hqB hqm
        have hW1 : q * val V ≤ val (U.drop k) := by omega
        have hW2 : val (U.drop k) < q * val V + val V := by omega
        have ql := hw.lower hq0 hW1
        have d0 := g2.udig.nth (show k + V.length < U.length by omega)
        have d1 := g2.udig.nth (show k + V.length - 1 < U.length by omega)
        have d2 := hw.u2
        have d3 := hw.v1
        have d4 := hw.v2
        have i0 : ((k : Int) + (V.length : Int)).toNat = k + V.length := by omega
        have i1 : ((k : Int) + (V.length : Int) - 1).toNat = k + V.length - 1 := by omega
        have i2 : ((k : Int) + (V.length : Int) - 2).toNat = k + V.length - 2 := by omega
        have i3 : ((V.length : Int) - 1).toNat = V.length - 1 := by omega
        have i4 : ((V.length : Int) - 2).toNat = V.length - 2 := by omega
        have t0 : nth U ((k : Int) + (V.length : Int)).toNat = nth U (k + V.length) := by rw [i0]
        have t1 : nth U ((k : Int) + (V.length : Int) - 1).toNat = nth U (k + V.length - 1) := by rw [i1]
        have t2 : nth U ((k : Int) + (V.length : Int) - 2).toNat = nth U (k + V.length - 2) := by rw [i2]
        have t3 : nth V ((V.length : Int) - 1).toNat = nth V (V.length - 1) := by rw [i3]
        have t4 : nth V ((V.length : Int) - 2).toNat = nth V (V.length - 2) := by rw [i4]
        have hdm := Int.emod_add_mul_ediv (nth U (k + V.length) * 1048576 + nth U (k + V.length - 1)) (nth V (V.length - 1))
        have hd0 : 0 ≤ (nth U (k + V.length) * 1048576 + nth U (k + V.length - 1)) / nth V (V.length - 1) := Int.ediv_nonneg (by omega) (by omega)
        have hd1 : (nth U (k + V.length) * 1048576 + nth U (k + V.length - 1)) / nth V (V.length - 1) ≤ nth U (k + V.length) * 1048576 + nth U (k + V.length - 1) := Int.ediv_le_self _ (by omega)
        have hd2 : q ≤ (nth U (k + V.length) * 1048576 + nth U (k + V.length - 1)) / nth V (V.length - 1) := Int.le_ediv_of_mul_le d3.1 ql
        have hd3 := Int.emod_nonneg (nth U (k + V.length) * 1048576 + nth U (k + V.length - 1)) (show nth V (V.length - 1) ≠ 0 by omega)
        have hd4 := Int.emod_lt_of_pos (nth U (k + V.length) * 1048576 + nth U (k + V.length - 1)) d3.1
        repeat' (first
          | ((first | apply U_ | (apply Ug_; exact rfl; exact rfl) | (apply Ugq_; exact rfl; exact rfl) | apply Lex.u | (apply Lex.g; exact rfl; exact rfl) | (apply Lex.gq; exact rfl; exact rfl)); (first
    | (apply Q_or20; exact Ev.auto; exact Ev.auto; (intro hg; first | omega | (simp; omega) | (simp at hg; simp; omega)))
    | (apply Q_shl20; exact Ev.auto; (intro hg; first | omega | (simp; omega) | (simp at hg; simp; omega)))
    | (apply Q_shr20; exact Ev.auto)
    | (apply Q_and1; exact Ev.auto)
    | (apply Q_mask20; exact Ev.auto)
    | exact QX.Move TYok
    | exact QX.Asg TYok
    | exact QX.Ld TYok
    | exact QX.Bin TYok
    | exact QX.Pick TYok
    | exact QX.Len TYok
    | exact QX.Idx TYok
    | exact QX.Ext TYok
    | exact QX.Cut TYok); exact rfl)
          | refine SX.Store TYok (h := ?_)
          | refine SX.Lit TYok (h := ?_)
          | refine SX.Make TYok (h := ?_)
          | refine SX.App TYok (h := ?_)
          | apply RG.nil
          | apply Lex.nil
          | apply Then.n
          | apply Then.r
          | apply Then.x
          | apply InBlock.n
          | apply InBlock.r
          | apply InBlock.hit
          | (apply InBlock.miss; exact rfl)
          | apply W.seq
          | apply W.region
          | apply W.block
          | apply W.skip
          | apply W.ret
          | apply W.exit
          | (apply S_isnil TYok; exact rfl; exact rfl; exact rfl; exact Ev.auto; intro bn hnil)
          | (apply RG.gT; exact rfl; exact rfl; (first | assumption | decide))
          | (apply RG.gF; exact rfl; exact rfl; (first | assumption | decide | (rw [ne_eq, Bool.not_eq_true]; assumption) | (rw [ne_eq, Bool.not_eq_false]; assumption)); exact rfl)
          | (apply W.draw2 (id := 17) [0, 0, 0, 6, 15, 31, 63, 0, 0, 0, 768, 1792, 3968, 8064, 16383, 32767] [[9], [13], [11], [84, 85], [83, 86], [87], [88], [9], [13], [11], [91, 92], [93], [90, 94], [95], [89, 96], [97]] 16 [(83, 512), (84, 8192), (85, 2048), (86, 58028439341502200385896448), (87, 87042659012253300578844672), (88, 154742504910672534362390528), (89, 309485009821345068724781056), (90, 512), (91, 8192), (92, 2048), (93, 7427640235712281649394745344), (94, 9903520314283042199192993792), (95, 21044980667851464673285111808), (96, 39614081257132168796771975168), (97, 79847132533907027730993512448), (14, 158456325028528675187087900672)] mixed (by kernel_rfl) rfl rfl)
          | (apply W.draw2 (id := 18) [0, 0, 0, 4, 14, 30, 63, 0, 0, 0, 512, 1792, 3840, 8064, 127, 32767] [[14], [10], [11], [100], [99, 101], [102], [98, 103], [14], [10], [11], [107], [106, 108], [109], [105, 110], [104], [111]] 16 [(98, 16384), (99, 1024), (100, 2048), (101, 1267650600228229401496703205376), (102, 3169126500570573503741758013440), (103, 5070602400912917605986812821504), (104, 10458117451882892562347801444352), (105, 16384), (106, 1024), (107, 2048), (108, 162259276829213363391578010288128), (109, 405648192073033408478945025720320), (110, 649037107316853453566312041152512), (111, 1338639033841010247980518584877056), (15, 20282409603651670423947251286016), (16, 2596148429267413814265248164610048)] mixed (by kernel_rfl) rfl rfl)
          | (apply W.draw2 (id := 19) [0, 1, 3, 7, 15, 31, 63, 63, 63, 319, 959, 1983, 4095, 63, 8255, 63, 63, 63, 196671, 458815, 1015871, 2064447, 4186175, 8388607, 16777215, 33554431] [[15], [112], [113], [16, 114], [115, 114], [116, 114], [15, 117], [10, 117], [11, 117], [120, 117], [119, 121, 117], [122, 117], [118, 123, 117], [16, 117], [125, 117], [9, 117], [13, 117], [11, 117], [128, 129, 117], [130, 117], [127, 131, 117], [132, 117], [126, 133, 117], [124, 134, 117], [117, 135, 114], [114, 136]] 26 [(112, 32768), (113, 5192296858534827628530496329220096), (114, 10384593717069655257060992658440192), (115, 20769187434139310514121985316945920), (116, 62307562302417931542365955950641152), (117, 103845937170696552570609926584401920), (118, 166153499473114484112975882535075840), (119, 166153499473114484112975882535044096), (120, 166153499473114484112975882535045120), (121, 1495381495258030357016782942815387648), (122, 3489223488935404166372493533235904512), (123, 5483065482612777975728204123656421376), (124, 11132284464698670435569384129847885824), (125, 166153499473114484112975882535108608), (126, 42701449364590422417034801811506069504), (127, 166153499473114484112975882535043584), (128, 166153499473114484112975882535051264), (129, 166153499473114484112975882535045120), (130, 1021013254262288504874236798177839677440), (131, 1361295621183226968337611405609607888896), (132, 2892566272327450053922797139052564840448), (133, 5444684024234488529898106694790826426368), (134, 10974272486699738561177944065557059862528), (135, 21799505284372093430106548764480186089472), (136, 43556329888567030577106576849134182989824), (137, 87112306700947680785934413624517979013120)] mixed (by kernel_rfl) rfl rfl)
          | (refine W.condA (ht := fun hb => ?_) (hf := fun hb => ?_) <;> (try simp at hb) <;> (try (exfalso; omega))))
        simp only [t0, t1, t3]
        generalize htop : nth U (k + V.length) * 1048576 + nth U (k + V.length - 1) = top at *
        generalize nth V (V.length - 1) = v1 at *
        apply W.loopP (σ := Int × Int) 170 [8, 10, 11, 13] (fun (g, r) => (g * v1 + r = top ∧ q ≤ g ∧ 0 ≤ r ∧ g ≤ 1099511627775)) (fun (g, r) => [(15, vI g), (16, vI r), (9, (True, .slc 56)), (12, (True, .slc 75))]) (fun (g, r) => [(56, ⟨3, 1, U.map encI⟩), (75, ⟨3, 1, Q.map encI⟩)]) (fun (g, r) => g.toNat) ((top / v1, top % v1))
        case hp => repeat (first | exact Pick.nil | apply Pick.cons rfl)
        case h0 =>
          refine ⟨⟨by rw [Int.mul_comm]; omega, hd2, hd3, by omega⟩, ?_⟩
          exact Le.auto
        case round =>
          rintro ⟨g, r⟩ ⟨f1, f2, f3, f4⟩
          dsimp only at f1 f2 f3 f4 ⊢
          have f5 : 0 ≤ g * v1 := Int.mul_nonneg (by omega) (by omega)
          have f6 : 0 ≤ g * nth V ((V.length : Int) - 2).toNat := Int.mul_nonneg (by omega) (by omega)
          have f7 : g * nth V ((V.length : Int) - 2).toNat ≤ g * 1048575 := Int.mul_le_mul_of_nonneg_left (by omega) (by omega)
          have hne : U.map encI ≠ [] := fun h => by
            have := congrArg List.length h
            simp at this; rw [this] at gU; simp at gU; omega
          apply W.norm (by repeat (first | exact App.nil | apply App.cons))
          have hs := settle_ok (U.take k) ((U.drop k).take (V.length + 1)) (U.drop (k + V.length + 1)) V g q ((g2.udig.drop k).take _) dV.dig
          have hU0 : U.take k ++ (U.drop k).take (V.length + 1) ++ U.drop (k + V.length + 1) = U := by
            rw [List.append_assoc, show k + V.length + 1 = k + (V.length + 1) by omega, ← List.drop_drop, List.take_append_drop, List.take_append_drop]
          have hl1 : ((U.drop k).take (V.length + 1)).length = V.length + 1 := by simp; omega
          have hl2 : (U.take k).length = k := by simp; omega
          rw [hU0, hl1, hl2, hwin] at hs
          have hs' := fun hg hq => hs rfl (by omega) hg hq (by omega)
          clear hs
          have hpart : ∀ bb cc : Nat, subV bb 1 ((k : Int)).toNat (((k : Int) + (V.length : Int) + 1).toNat - ((k : Int)).toNat) (cc - ((k : Int)).toNat) = subV bb 1 k (V.length + 1) (cc - k) := fun bb cc => by
            rw [show ((k : Int) + (V.length : Int) + 1).toNat - ((k : Int)).toNat = V.length + 1 by omega, show ((k : Int)).toNat = k by omega]
          have gS := g2.step hk hVhi hVpos ⟨hq0, hqB⟩ hW1 hW2
          have hlen : ((U.take k ++ digL (V.length + 1) (val (U.drop k) - q * val V) ++ U.drop (k + V.length + 1)).map encI).length = (U.map encI).length := by
            rw [List.length_map, List.length_map, gS.ulen, gU]
          generalize U.take k ++ digL (V.length + 1) (val (U.drop k) - q * val V) ++ U.drop (k + V.length + 1) = U' at hs' gS hlen
          have f9 : g * nth V ((V.length : Int) - 2).toNat = g * nth V (V.length - 2) := by rw [t4]
          have f8 : 0 ≤ g * nth V (V.length - 2) ∧ g * nth V (V.length - 2) ≤ g * 1048575 := by rw [← t4]; exact ⟨f6, f7⟩
          by_cases hcont : 1048576 ≤ g ∨ r < 1048576 ∧ r * 1048576 + nth U (k + V.length - 2) < g * nth V (V.length - 2)
          · have hdec : q ≤ g - 1 := by
              rcases hcont with h | h
              · omega
              · exact hw.dec hq0 hW1 f1 h.2
            repeat' (first
              | ((first | apply U_ | (apply Ug_; exact rfl; exact rfl) | (apply Ugq_; exact rfl; exact rfl) | apply Lex.u | (apply Lex.g; exact rfl; exact rfl) | (apply Lex.gq; exact rfl; exact rfl)); (first
    | (apply Q_or20; exact Ev.auto; exact Ev.auto; (intro hg; first | omega | (simp; omega) | (simp at hg; simp; omega)))
    | (apply Q_shl20; exact Ev.auto; (intro hg; first | omega | (simp; omega) | (simp at hg; simp; omega)))
    | (apply Q_shr20; exact Ev.auto)
    | (apply Q_and1; exact Ev.auto)
    | (apply Q_mask20; exact Ev.auto)
    | exact QX.Move TYok
    | exact QX.Asg TYok
    | exact QX.Ld TYok
    | exact QX.Bin TYok
    | exact QX.Pick TYok
    | exact QX.Len TYok
    | exact QX.Idx TYok
    | exact QX.Ext TYok
    | exact QX.Cut TYok); exact rfl)
              | refine SX.Store TYok (h := ?_)
              | refine SX.Lit TYok (h := ?_)
              | refine SX.Make TYok (h := ?_)
              | refine SX.App TYok (h := ?_)
              | apply RG.nil
              | apply Lex.nil
              | apply Then.n
              | apply Then.r
              | apply Then.x
              | apply InBlock.n
              | apply InBlock.r
              | apply InBlock.hit
              | (apply InBlock.miss; exact rfl)
              | apply W.seq
              | apply W.region
              | apply W.block
              | apply W.skip
              | apply W.ret
              | apply W.exit
              | (apply S_isnil TYok; exact rfl; exact rfl; exact rfl; exact Ev.auto; intro bn hnil)
              | (apply RG.gT; exact rfl; exact rfl; (first | assumption | decide))
              | (apply RG.gF; exact rfl; exact rfl; (first | assumption | decide | (rw [ne_eq, Bool.not_eq_true]; assumption) | (rw [ne_eq, Bool.not_eq_false]; assumption)); exact rfl)
              | (apply W.draw2 (id := 17) [0, 0, 0, 6, 15, 31, 63, 0, 0, 0, 768, 1792, 3968, 8064, 16383, 32767] [[9], [13], [11], [84, 85], [83, 86], [87], [88], [9], [13], [11], [91, 92], [93], [90, 94], [95], [89, 96], [97]] 16 [(83, 512), (84, 8192), (85, 2048), (86, 58028439341502200385896448), (87, 87042659012253300578844672), (88, 154742504910672534362390528), (89, 309485009821345068724781056), (90, 512), (91, 8192), (92, 2048), (93, 7427640235712281649394745344), (94, 9903520314283042199192993792), (95, 21044980667851464673285111808), (96, 39614081257132168796771975168), (97, 79847132533907027730993512448), (14, 158456325028528675187087900672)] mixed (by kernel_rfl) rfl rfl)
              | (apply W.draw2 (id := 18) [0, 0, 0, 4, 14, 30, 63, 0, 0, 0, 512, 1792, 3840, 8064, 127, 32767] [[14], [10], [11], [100], [99, 101], [102], [98, 103], [14], [10], [11], [107], [106, 108], [109], [105, 110], [104], [111]] 16 [(98, 16384), (99, 1024), (100, 2048), (101, 1267650600228229401496703205376), (102, 3169126500570573503741758013440), (103, 5070602400912917605986812821504), (104, 10458117451882892562347801444352), (105, 16384), (106, 1024), (107, 2048), (108, 162259276829213363391578010288128), (109, 405648192073033408478945025720320), (110, 649037107316853453566312041152512), (111, 1338639033841010247980518584877056), (15, 20282409603651670423947251286016), (16, 2596148429267413814265248164610048)] mixed (by kernel_rfl) rfl rfl)
              | (apply W.draw2 (id := 19) [0, 1, 3, 7, 15, 31, 63, 63, 63, 319, 959, 1983, 4095, 63, 8255, 63, 63, 63, 196671, 458815, 1015871, 2064447, 4186175, 8388607, 16777215, 33554431] [[15], [112], [113], [16, 114], [115, 114], [116, 114], [15, 117], [10, 117], [11, 117], [120, 117], [119, 121, 117], [122, 117], [118, 123, 117], [16, 117], [125, 117], [9, 117], [13, 117], [11, 117], [128, 129, 117], [130, 117], [127, 131, 117], [132, 117], [126, 133, 117], [124, 134, 117], [117, 135, 114], [114, 136]] 26 [(112, 32768), (113, 5192296858534827628530496329220096), (114, 10384593717069655257060992658440192), (115, 20769187434139310514121985316945920), (116, 62307562302417931542365955950641152), (117, 103845937170696552570609926584401920), (118, 166153499473114484112975882535075840), (119, 166153499473114484112975882535044096), (120, 166153499473114484112975882535045120), (121, 1495381495258030357016782942815387648), (122, 3489223488935404166372493533235904512), (123, 5483065482612777975728204123656421376), (124, 11132284464698670435569384129847885824), (125, 166153499473114484112975882535108608), (126, 42701449364590422417034801811506069504), (127, 166153499473114484112975882535043584), (128, 166153499473114484112975882535051264), (129, 166153499473114484112975882535045120), (130, 1021013254262288504874236798177839677440), (131, 1361295621183226968337611405609607888896), (132, 2892566272327450053922797139052564840448), (133, 5444684024234488529898106694790826426368), (134, 10974272486699738561177944065557059862528), (135, 21799505284372093430106548764480186089472), (136, 43556329888567030577106576849134182989824), (137, 87112306700947680785934413624517979013120)] mixed (by kernel_rfl) rfl rfl)
              | (refine W.condA (ht := fun hb => ?_) (hf := fun hb => ?_) <;> (try simp at hb) <;> (try (exfalso; omega))))
            · refine ⟨(g - 1, r + v1), ⟨?_, by omega, by omega, by omega⟩, ?_, by (try simp only); omega⟩
              · rw [Int.sub_mul]; omega
              · simp only [t3]
                exact Le.auto
            all_goals (exfalso; omega)
          · have hup : g ≤ q + 1 := by
              refine hw.upper hq0 hW2 f1 (by omega) ?_
              by_cases h : r < 1048576
              · omega
              · omega
            have hs2 := hs' ⟨by omega, by omega⟩ ⟨f2, hup⟩
            repeat' (first
              | (apply W.region (id := 22); refine RG.place (t := 9) (n := 56) rfl rfl (fun bb cc => ?_) (fun hnil => (hne hnil).elim))
              | ((first | apply U_ | (apply Ug_; exact rfl; exact rfl) | (apply Ugq_; exact rfl; exact rfl) | apply Lex.u | (apply Lex.g; exact rfl; exact rfl) | (apply Lex.gq; exact rfl; exact rfl)); (first
    | (apply Q_or20; exact Ev.auto; exact Ev.auto; (intro hg; first | omega | (simp; omega) | (simp at hg; simp; omega)))
    | (apply Q_shl20; exact Ev.auto; (intro hg; first | omega | (simp; omega) | (simp at hg; simp; omega)))
    | (apply Q_shr20; exact Ev.auto)
    | (apply Q_and1; exact Ev.auto)
    | (apply Q_mask20; exact Ev.auto)
    | exact QX.Move TYok
    | exact QX.Asg TYok
    | exact QX.Ld TYok
    | exact QX.Bin TYok
    | exact QX.Pick TYok
    | exact QX.Len TYok
    | exact QX.Idx TYok
    | exact QX.Ext TYok
    | exact QX.Cut TYok
    | (apply Q_partV TYok; exact Ev.auto; exact Ev.auto; exact Ev.auto; exact rfl; exact rfl; exact rfl; exact rfl; (intro hg; simp; omega))); exact rfl)
              | refine SX.Store TYok (h := ?_)
              | refine SX.Lit TYok (h := ?_)
              | refine SX.Make TYok (h := ?_)
              | refine SX.App TYok (h := ?_)
              | (apply S_callsub hs2; exact Ev.auto; exact hpart _ _; exact rfl; exact rfl; exact EvD.auto; exact hlen)
              | apply RG.nil
              | apply Lex.nil
              | apply Then.n
              | apply Then.r
              | apply Then.x
              | apply InBlock.n
              | apply InBlock.r
              | apply InBlock.hit
              | (apply InBlock.miss; exact rfl)
              | apply W.seq
              | apply W.region
              | apply W.block
              | apply W.skip
              | apply W.ret
              | apply W.exit
              | (apply S_isnil TYok; exact rfl; exact rfl; exact rfl; exact Ev.auto; intro bn hnil)
              | (apply RG.gT; exact rfl; exact rfl; (first | assumption | decide))
              | (apply RG.gF; exact rfl; exact rfl; (first | assumption | decide | (rw [ne_eq, Bool.not_eq_true]; assumption) | (rw [ne_eq, Bool.not_eq_false]; assumption)); exact rfl)
              | (apply W.draw2 (id := 17) [0, 0, 0, 6, 15, 31, 63, 0, 0, 0, 768, 1792, 3968, 8064, 16383, 32767] [[9], [13], [11], [84, 85], [83, 86], [87], [88], [9], [13], [11], [91, 92], [93], [90, 94], [95], [89, 96], [97]] 16 [(83, 512), (84, 8192), (85, 2048), (86, 58028439341502200385896448), (87, 87042659012253300578844672), (88, 154742504910672534362390528), (89, 309485009821345068724781056), (90, 512), (91, 8192), (92, 2048), (93, 7427640235712281649394745344), (94, 9903520314283042199192993792), (95, 21044980667851464673285111808), (96, 39614081257132168796771975168), (97, 79847132533907027730993512448), (14, 158456325028528675187087900672)] mixed (by kernel_rfl) rfl rfl)
              | (apply W.draw2 (id := 18) [0, 0, 0, 4, 14, 30, 63, 0, 0, 0, 512, 1792, 3840, 8064, 127, 32767] [[14], [10], [11], [100], [99, 101], [102], [98, 103], [14], [10], [11], [107], [106, 108], [109], [105, 110], [104], [111]] 16 [(98, 16384), (99, 1024), (100, 2048), (101, 1267650600228229401496703205376), (102, 3169126500570573503741758013440), (103, 5070602400912917605986812821504), (104, 10458117451882892562347801444352), (105, 16384), (106, 1024), (107, 2048), (108, 162259276829213363391578010288128), (109, 405648192073033408478945025720320), (110, 649037107316853453566312041152512), (111, 1338639033841010247980518584877056), (15, 20282409603651670423947251286016), (16, 2596148429267413814265248164610048)] mixed (by kernel_rfl) rfl rfl)
              | (apply W.draw2 (id := 19) [0, 1, 3, 7, 15, 31, 63, 63, 63, 319, 959, 1983, 4095, 63, 8255, 63, 63, 63, 196671, 458815, 1015871, 2064447, 4186175, 8388607, 16777215, 33554431] [[15], [112], [113], [16, 114], [115, 114], [116, 114], [15, 117], [10, 117], [11, 117], [120, 117], [119, 121, 117], [122, 117], [118, 123, 117], [16, 117], [125, 117], [9, 117], [13, 117], [11, 117], [128, 129, 117], [130, 117], [127, 131, 117], [132, 117], [126, 133, 117], [124, 134, 117], [117, 135, 114], [114, 136]] 26 [(112, 32768), (113, 5192296858534827628530496329220096), (114, 10384593717069655257060992658440192), (115, 20769187434139310514121985316945920), (116, 62307562302417931542365955950641152), (117, 103845937170696552570609926584401920), (118, 166153499473114484112975882535075840), (119, 166153499473114484112975882535044096), (120, 166153499473114484112975882535045120), (121, 1495381495258030357016782942815387648), (122, 3489223488935404166372493533235904512), (123, 5483065482612777975728204123656421376), (124, 11132284464698670435569384129847885824), (125, 166153499473114484112975882535108608), (126, 42701449364590422417034801811506069504), (127, 166153499473114484112975882535043584), (128, 166153499473114484112975882535051264), (129, 166153499473114484112975882535045120), (130, 1021013254262288504874236798177839677440), (131, 1361295621183226968337611405609607888896), (132, 2892566272327450053922797139052564840448), (133, 5444684024234488529898106694790826426368), (134, 10974272486699738561177944065557059862528), (135, 21799505284372093430106548764480186089472), (136, 43556329888567030577106576849134182989824), (137, 87112306700947680785934413624517979013120)] mixed (by kernel_rfl) rfl rfl)
              | (refine W.condA (ht := fun hb => ?_) (hf := fun hb => ?_) <;> (try simp at hb) <;> (try (exfalso; omega))))
            refine ⟨(k, U', Q.set k q), ⟨by (try simp only); omega, gS⟩, Le.trans (Le.unplace (t := 9) (n := 56) (b := bb) (c := cc) rfl) ?_, by (try simp only); omega⟩
            exact Le.auto
      | zero =>
        have hsm := g2.small
        have heq := g2.eq
        rw [List.drop_zero] at hsm heq
        simp only [pw, Int.one_mul] at heq
        have hU0 := val_lo g2.udig
        have t1 : ACalls Tryz.prog 80 [slI U] (.pv (slI (digs (val U)))) := by
          rw [← trim_digs g2.udig]; exact trim_ok U (by omega)
        have t2 : ACalls Tryz.prog 80 [slI Q] (.pv (slI (digs (val Q)))) := by
          rw [← trim_digs g2.qdig]; exact trim_ok Q (by omega)
        have lU : (digs (val U)).length ≤ 1000000 := by
          have := trimL_len U
          rw [trim_digs g2.udig] at this; omega
        have t3 := short_ok (digs (val U)) s (digs_norm _).dig (by omega) lU
        rw [val_digs hU0] at t3
        have hb0 : 0 < val b := nb.pos (fun h => by rw [h, List.length_nil] at hb2; omega)
        have hmr := Int.emod_add_mul_ediv (val a) (val b)
        have hr0 := Int.emod_nonneg (val a) (show val b ≠ 0 by omega)
        have hr1 := Int.emod_lt_of_pos (val a) hb0
        have e1 : val Q = val a / val b := by
          have h3 : val a * s / (val b * s) = val a / val b := Int.mul_ediv_mul_of_pos_left _ _ (by omega)
          rw [← h3, heq, ← eV, Int.add_mul_ediv_left _ _ (by omega), Int.ediv_eq_zero_of_lt hU0 hsm]; omega
        have e2 : val U = (val a % val b) * s := by
          rw [e1, eV] at heq
          have h3 : val a * s = (val a % val b + val b * (val a / val b)) * s := by rw [hmr]
          generalize val a % val b = x at *
          generalize val a / val b = y at *
          have h4 : (x + val b * y) * s = x * s + val b * s * y := by grind
          omega
        have e3 : val U / s = val a % val b := by rw [e2, Int.mul_ediv_cancel _ (by omega)]
        rw [e3] at t3
        rw [e1] at t2
        generalize val U % s = rr at t3
        generalize val a / val b = y at t2 ⊢
        generalize val a % val b = x at t3 ⊢
        generalize digs (val U) = W' at t1 t3
        repeat' (first
          | (refine W.weaken Le.freeze ?_; apply W.region (id := 23))
          | ((first | apply U_ | (apply Ug_; exact rfl; exact rfl) | (apply Ugq_; exact rfl; exact rfl) | apply Lex.u | (apply Lex.g; exact rfl; exact rfl) | (apply Lex.gq; exact rfl; exact rfl)); (first
    | (apply Q_or20; exact Ev.auto; exact Ev.auto; (intro hg; first | omega | (simp; omega) | (simp at hg; simp; omega)))
    | (apply Q_shl20; exact Ev.auto; (intro hg; first | omega | (simp; omega) | (simp at hg; simp; omega)))
    | (apply Q_shr20; exact Ev.auto)
    | (apply Q_and1; exact Ev.auto)
    | (apply Q_mask20; exact Ev.auto)
    | exact QX.Move TYok
    | exact QX.Asg TYok
    | exact QX.Ld TYok
    | exact QX.Bin TYok
    | exact QX.Pick TYok
    | exact QX.Len TYok
    | exact QX.Idx TYok
    | exact QX.Ext TYok
    | exact QX.Cut TYok
    | (apply Q_calld (t1); exact EvD.auto)
    | (apply Q_calld (t2); exact EvD.auto)
    | (apply Q_calld (t3); exact EvD.auto)); exact rfl)
          | refine SX.Store TYok (h := ?_)
          | refine SX.Lit TYok (h := ?_)
          | refine SX.Make TYok (h := ?_)
          | refine SX.App TYok (h := ?_)
          | apply RG.nil
          | apply Lex.nil
          | apply Then.n
          | apply Then.r
          | apply Then.x
          | apply InBlock.n
          | apply InBlock.r
          | apply InBlock.hit
          | (apply InBlock.miss; exact rfl)
          | apply W.seq
          | apply W.region
          | apply W.block
          | apply W.skip
          | apply W.ret
          | apply W.exit
          | (apply S_isnil TYok; exact rfl; exact rfl; exact rfl; exact Ev.auto; intro bn hnil)
          | (apply RG.gT; exact rfl; exact rfl; (first | assumption | decide))
          | (apply RG.gF; exact rfl; exact rfl; (first | assumption | decide | (rw [ne_eq, Bool.not_eq_true]; assumption) | (rw [ne_eq, Bool.not_eq_false]; assumption)); exact rfl)
          | (apply W.draw2 (id := 17) [0, 0, 0, 6, 15, 31, 63, 0, 0, 0, 768, 1792, 3968, 8064, 16383, 32767] [[9], [13], [11], [84, 85], [83, 86], [87], [88], [9], [13], [11], [91, 92], [93], [90, 94], [95], [89, 96], [97]] 16 [(83, 512), (84, 8192), (85, 2048), (86, 58028439341502200385896448), (87, 87042659012253300578844672), (88, 154742504910672534362390528), (89, 309485009821345068724781056), (90, 512), (91, 8192), (92, 2048), (93, 7427640235712281649394745344), (94, 9903520314283042199192993792), (95, 21044980667851464673285111808), (96, 39614081257132168796771975168), (97, 79847132533907027730993512448), (14, 158456325028528675187087900672)] mixed (by kernel_rfl) rfl rfl)
          | (apply W.draw2 (id := 18) [0, 0, 0, 4, 14, 30, 63, 0, 0, 0, 512, 1792, 3840, 8064, 127, 32767] [[14], [10], [11], [100], [99, 101], [102], [98, 103], [14], [10], [11], [107], [106, 108], [109], [105, 110], [104], [111]] 16 [(98, 16384), (99, 1024), (100, 2048), (101, 1267650600228229401496703205376), (102, 3169126500570573503741758013440), (103, 5070602400912917605986812821504), (104, 10458117451882892562347801444352), (105, 16384), (106, 1024), (107, 2048), (108, 162259276829213363391578010288128), (109, 405648192073033408478945025720320), (110, 649037107316853453566312041152512), (111, 1338639033841010247980518584877056), (15, 20282409603651670423947251286016), (16, 2596148429267413814265248164610048)] mixed (by kernel_rfl) rfl rfl)
          | (apply W.draw2 (id := 19) [0, 1, 3, 7, 15, 31, 63, 63, 63, 319, 959, 1983, 4095, 63, 8255, 63, 63, 63, 196671, 458815, 1015871, 2064447, 4186175, 8388607, 16777215, 33554431] [[15], [112], [113], [16, 114], [115, 114], [116, 114], [15, 117], [10, 117], [11, 117], [120, 117], [119, 121, 117], [122, 117], [118, 123, 117], [16, 117], [125, 117], [9, 117], [13, 117], [11, 117], [128, 129, 117], [130, 117], [127, 131, 117], [132, 117], [126, 133, 117], [124, 134, 117], [117, 135, 114], [114, 136]] 26 [(112, 32768), (113, 5192296858534827628530496329220096), (114, 10384593717069655257060992658440192), (115, 20769187434139310514121985316945920), (116, 62307562302417931542365955950641152), (117, 103845937170696552570609926584401920), (118, 166153499473114484112975882535075840), (119, 166153499473114484112975882535044096), (120, 166153499473114484112975882535045120), (121, 1495381495258030357016782942815387648), (122, 3489223488935404166372493533235904512), (123, 5483065482612777975728204123656421376), (124, 11132284464698670435569384129847885824), (125, 166153499473114484112975882535108608), (126, 42701449364590422417034801811506069504), (127, 166153499473114484112975882535043584), (128, 166153499473114484112975882535051264), (129, 166153499473114484112975882535045120), (130, 1021013254262288504874236798177839677440), (131, 1361295621183226968337611405609607888896), (132, 2892566272327450053922797139052564840448), (133, 5444684024234488529898106694790826426368), (134, 10974272486699738561177944065557059862528), (135, 21799505284372093430106548764480186089472), (136, 43556329888567030577106576849134182989824), (137, 87112306700947680785934413624517979013120)] mixed (by kernel_rfl) rfl rfl)
          | (refine W.condA (ht := fun hb => ?_) (hf := fun hb => ?_) <;> (try simp at hb) <;> (try (exfalso; omega))))
        exact Fin.ret ResL.auto
theorem div_ok (a b : List Int) (na : Norm a) (nb : Norm b) (hl : a.length ≤ 100000) (hl' : b.length ≤ 100000) (hb : b ≠ []) : ACalls Tryz.prog 82 [slI a, slI b] (.tup [slI (digs (val a / val b)), slI (digs (val a % val b))]) := by
  by_cases h : val a < val b
  · exact div_lt a b na nb hl hl' h
  · have := List.length_pos_iff.2 hb
    by_cases h2 : b.length = 1
    · exact div_one a b na nb hl h2 (by omega)
    · exact div_long a b na nb hl (by omega) (by omega)
end Go.Proofs.YtipghibmgfhmpaaGreatDoor
