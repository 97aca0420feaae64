/-
  BindMore
-/
import Derived.Test.YtionjeodcmnneaaMo
import Derived.Test.YtionjeodcmnneaaLfSet
set_option linter.unusedVariables false
set_option linter.unusedSimpArgs false
set_option maxHeartbeats 8000000
namespace Go.Proofs.Ytionjeodcmnneaa
open Lf Go
attribute [local irreducible] PureOp EffOp Ev RG W Then InBlock Lf.Fin nth App InitE Pick SubE SubF SubG EvL EvD EvP EvR ResL Lf.Lex SubR SubBR RA RAll EvC FinO FinM ResM FinB ResD

/-! ### BindMore: the walk -/
set_option maxRecDepth 20000 in
theorem more_ok (o f : List Ind) (y t : List Int) (w b : Int) (hw : 0 ≤ w ∧ w ≤ 255) (hb0 : 0 ≤ b ∧ b ≤ 65535) (ho : OkL o) (hf : OkL f) : ACalls Try.prog 6 [slN o, slN f, slI y, slI t, c8 w, c16 b] (.pv (cB true)) := by
  have h0 := small_ok
  have h1 := fewB_ok o f y t ho.ok hf.ok ho.len hf.len
  by_cases hw2 : fewB o f y t = true ∧ ¬ o.length = 0
  case neg =>
    refine ACalls.of_W (qs := [cB true]) [12] 227 Try.func6 (by kernel_rfl) rfl rfl rfl fun G => ?_
    refine W.initA (hw := ?_)
    repeat' (first
      | apply RG.nil
      | apply Lex.nil
      | apply Then.n
      | apply Then.r
      | apply Then.x
      | apply InBlock.n
      | apply InBlock.r
      | apply InBlock.hit
      | (apply InBlock.miss; exact rfl)
      | apply W.seq
      | apply W.region
      | apply W.block
      | apply W.skip
      | apply W.ret
      | apply W.exit
      | (apply W.draw2 (id := 11) [0, 0, 3, 7, 15, 31, 63, 63, 255, 511, 63, 63, 3135, 7231, 16383, 32767, 65535, 131071, 131071, 524287, 1048575, 2097151, 4194303] [[17], [16], [83, 84], [85], [86], [87], [17, 88], [16, 88], [89, 90, 88], [91, 88], [3, 88], [16, 88], [93, 94, 88], [95, 88], [92, 96, 88], [88, 97], [98], [3, 99], [16, 99], [100, 101, 99], [102, 99], [103, 99], [99, 104]] 23 [(83, 131072), (84, 65536), (85, 29014219670751100192948224), (86, 38685626227668133590597632), (87, 77371252455336267181195264), (88, 154742504910672534362390528), (89, 309485009821345068724912128), (90, 309485009821345068724846592), (91, 2166395068749415481073467392), (92, 2785365088392105618523029504), (93, 309485009821345068724781064), (94, 309485009821345068724846592), (95, 30020045952670471666303762432), (96, 39923566266953513865496756224), (97, 84489407681227203761865228288), (98, 158765810038350020255812681728), (99, 316912650057057350374175801344), (100, 633825300114114700748351602696), (101, 633825300114114700748351668224), (102, 4436777100798802905238461218816), (103, 5704427701027032306735164424192), (104, 10775030101939949912721977245696), (105, 20916234903765785124695602888704)] mixed (by kernel_rfl) rfl rfl)
      | (apply W.draw2 (id := 12) [0, 0, 0, 0, 12, 28, 0, 64, 252, 0, 0, 1536, 3584, 8188, 16383, 32767] [[17], [16], [17], [16], [108, 109], [110], [5], [112], [111, 113], [3], [16], [115, 116], [117], [114, 118], [106, 107]] 15 [(106, 131072), (107, 65536), (108, 131072), (109, 65536), (110, 973555660975280180349468061728768), (111, 1298074214633706907132624082305024), (112, 32), (113, 5192296858534827628530496329220096), (114, 12980742146337069071326240823050240), (115, 8), (116, 65536), (117, 124615124604835863084731911901282304), (118, 166153499473114484112975882535043072), (119, 353076186380368278740073750386966528), (120, 243388915243820045087367015432192)] mixed (by kernel_rfl) rfl rfl)
      | (apply W.draw2 (id := 15) [0, 0, 3, 7, 15, 0, 0, 96, 224, 480, 1023] [[18], [16], [127, 128], [129], [130], [19], [16], [132, 133], [134], [135], [131, 136]] 11 [(127, 262144), (128, 65536), (129, 510423550381407695195061911147652317184), (130, 680564733841876926926749214863536422912), (131, 1361129467683753853853498429727072845824), (132, 524288), (133, 65536), (134, 16333553612205046246241981156724874149888), (135, 21778071482940061661655974875633165533184), (136, 43556142965880123323311949751266331066368), (137, 89834544867127754354330896361986807824384)] mixed (by kernel_rfl) rfl rfl)
      | ((first | apply U_ | (apply Ug_; exact rfl; exact rfl) | (apply Ugq_; exact rfl; exact rfl) | apply Lex.u | (apply Lex.g; exact rfl; exact rfl) | (apply Lex.gq; exact rfl; exact rfl)); (first
    | exact QX.Move TYok
    | exact QX.Asg TYok
    | exact QX.Fld TYok
    | exact QX.Ld TYok
    | exact QX.Bin TYok
    | exact QX.Pick TYok
    | exact QX.Un TYok
    | exact QX.Num TYok
    | exact QX.Len TYok
    | exact QX.Idx TYok
    | exact QX.Ext TYok
    | exact QX.Conv TYok
    | (apply Q_calld (h0); exact EvD.auto)
    | (apply Q_call (h1); exact EvL.auto; exact rfl)); exact rfl)
      | refine SX.Store TYok (h := ?_)
      | refine SX.Lit TYok (h := ?_)
      | refine SX.App TYok (h := ?_)
      | (apply S_isnil TYok; exact rfl; exact rfl; exact rfl; exact Ev.auto; intro bn hnil)
      | (apply RG.gT; exact rfl; exact rfl; (first | assumption | decide))
      | (apply RG.gF; exact rfl; exact rfl; (first | assumption | decide | (rw [ne_eq, Bool.not_eq_true]; assumption) | (rw [ne_eq, Bool.not_eq_false]; assumption)); exact rfl)
      | (refine W.condA (ht := fun hb => ?_) (hf := fun hb => ?_) <;> (try simp at hb) <;> (try (exfalso; omega))))
    · exact Fin.ret ResL.auto
    all_goals (exfalso; apply hw2; simp_all; done)
  obtain ⟨hwt, hpos⟩ := hw2
  rw [hwt] at h1
  obtain ⟨ha, n1, n2, n3, n4⟩ := few_args ho hf hwt
  have h2 := binds_ok o f y t ha
  by_cases he : errB o f y t = 0
  case neg =>
    rw [binds_err he] at h2
    generalize errB o f y t = er at h2 he
    replace h2 : ACalls Try.prog 10 [slN o, slN f, slI y, slI t] (.tup [slB [], cI er]) := h2
    refine ACalls.of_W (qs := [cB true]) [12] 227 Try.func6 (by kernel_rfl) rfl rfl rfl fun G => ?_
    refine W.initA (hw := ?_)
    repeat' (first
      | apply RG.nil
      | apply Lex.nil
      | apply Then.n
      | apply Then.r
      | apply Then.x
      | apply InBlock.n
      | apply InBlock.r
      | apply InBlock.hit
      | (apply InBlock.miss; exact rfl)
      | apply W.seq
      | apply W.region
      | apply W.block
      | apply W.skip
      | apply W.ret
      | apply W.exit
      | (apply W.draw2 (id := 11) [0, 0, 3, 7, 15, 31, 63, 63, 255, 511, 63, 63, 3135, 7231, 16383, 32767, 65535, 131071, 131071, 524287, 1048575, 2097151, 4194303] [[17], [16], [83, 84], [85], [86], [87], [17, 88], [16, 88], [89, 90, 88], [91, 88], [3, 88], [16, 88], [93, 94, 88], [95, 88], [92, 96, 88], [88, 97], [98], [3, 99], [16, 99], [100, 101, 99], [102, 99], [103, 99], [99, 104]] 23 [(83, 131072), (84, 65536), (85, 29014219670751100192948224), (86, 38685626227668133590597632), (87, 77371252455336267181195264), (88, 154742504910672534362390528), (89, 309485009821345068724912128), (90, 309485009821345068724846592), (91, 2166395068749415481073467392), (92, 2785365088392105618523029504), (93, 309485009821345068724781064), (94, 309485009821345068724846592), (95, 30020045952670471666303762432), (96, 39923566266953513865496756224), (97, 84489407681227203761865228288), (98, 158765810038350020255812681728), (99, 316912650057057350374175801344), (100, 633825300114114700748351602696), (101, 633825300114114700748351668224), (102, 4436777100798802905238461218816), (103, 5704427701027032306735164424192), (104, 10775030101939949912721977245696), (105, 20916234903765785124695602888704)] mixed (by kernel_rfl) rfl rfl)
      | (apply W.draw2 (id := 12) [0, 0, 0, 0, 12, 28, 0, 64, 252, 0, 0, 1536, 3584, 8188, 16383, 32767] [[17], [16], [17], [16], [108, 109], [110], [5], [112], [111, 113], [3], [16], [115, 116], [117], [114, 118], [106, 107]] 15 [(106, 131072), (107, 65536), (108, 131072), (109, 65536), (110, 973555660975280180349468061728768), (111, 1298074214633706907132624082305024), (112, 32), (113, 5192296858534827628530496329220096), (114, 12980742146337069071326240823050240), (115, 8), (116, 65536), (117, 124615124604835863084731911901282304), (118, 166153499473114484112975882535043072), (119, 353076186380368278740073750386966528), (120, 243388915243820045087367015432192)] mixed (by kernel_rfl) rfl rfl)
      | (apply W.draw2 (id := 15) [0, 0, 3, 7, 15, 0, 0, 96, 224, 480, 1023] [[18], [16], [127, 128], [129], [130], [19], [16], [132, 133], [134], [135], [131, 136]] 11 [(127, 262144), (128, 65536), (129, 510423550381407695195061911147652317184), (130, 680564733841876926926749214863536422912), (131, 1361129467683753853853498429727072845824), (132, 524288), (133, 65536), (134, 16333553612205046246241981156724874149888), (135, 21778071482940061661655974875633165533184), (136, 43556142965880123323311949751266331066368), (137, 89834544867127754354330896361986807824384)] mixed (by kernel_rfl) rfl rfl)
      | ((first | apply U_ | (apply Ug_; exact rfl; exact rfl) | (apply Ugq_; exact rfl; exact rfl) | apply Lex.u | (apply Lex.g; exact rfl; exact rfl) | (apply Lex.gq; exact rfl; exact rfl)); (first
    | exact QX.Move TYok
    | exact QX.Asg TYok
    | exact QX.Fld TYok
    | exact QX.Ld TYok
    | exact QX.Bin TYok
    | exact QX.Pick TYok
    | exact QX.Un TYok
    | exact QX.Num TYok
    | exact QX.Len TYok
    | exact QX.Idx TYok
    | exact QX.Ext TYok
    | exact QX.Conv TYok
    | (apply Q_calld (h0); exact EvD.auto)
    | (apply Q_call (h1); exact EvL.auto; exact rfl)
    | (apply Q_calld (h2); exact EvD.auto)); exact rfl)
      | refine SX.Store TYok (h := ?_)
      | refine SX.Lit TYok (h := ?_)
      | refine SX.App TYok (h := ?_)
      | (apply S_isnil TYok; exact rfl; exact rfl; exact rfl; exact Ev.auto; intro bn hnil)
      | (apply RG.gT; exact rfl; exact rfl; (first | assumption | decide))
      | (apply RG.gF; exact rfl; exact rfl; (first | assumption | decide | (rw [ne_eq, Bool.not_eq_true]; assumption) | (rw [ne_eq, Bool.not_eq_false]; assumption)); exact rfl)
      | (refine W.condA (ht := fun hb => ?_) (hf := fun hb => ?_) <;> (try simp at hb) <;> (try (exfalso; omega))))
    all_goals exact Fin.ret ResL.auto
  rw [binds_zero he] at h2
  obtain ⟨hs, ro, rf, -, -⟩ := errB_zero he
  obtain ⟨m1, m2, m3, m4⟩ := shape_iff.1 hs
  have hwn : 0 ≤ w % (o.length : Int) ∧ w % (o.length : Int) < o.length := ⟨Int.emod_nonneg _ (by omega), Int.emod_lt_of_pos _ (by omega)⟩
  have hi : (w % (o.length : Int)).toNat < o.length := by omega
  have hmaj := right_maj (ro _ (nth_mem hi))
  have e3 : errB o f (moreY y t (w % (o.length : Int)).toNat b) t = 0 := errB_keep he rfl rfl (more_len ..) rfl ro rf (fun _ _ => ⟨rfl, rfl⟩) (fun _ _ => ⟨rfl, rfl⟩)
  have h3 := binds_ok o f (moreY y t (w % (o.length : Int)).toNat b) t ha
  rw [binds_zero e3] at h3
  have hx : ∀ k, k < o.length → nth (bindsL o f y t) k = true → nth (bindsL o f (moreY y t (w % (o.length : Int)).toNat b) t) k = true := fun k hk q => by
    rw [nth_binds hk] at q ⊢; exact more_out hs hi hb0.1 hk q
  have hbl := len_binds o f y t
  have hbl3 := len_binds o f (moreY y t (w % (o.length : Int)).toNat b) t
  replace h2 : ACalls Try.prog 10 [slN o, slN f, slI y, slI t] (.tup [slB (bindsL o f y t), cI 0]) := h2
  replace h3 : ACalls Try.prog 10 [slN o, slN f, slI (moreY y t (w % (o.length : Int)).toNat b), slI t] (.tup [slB (bindsL o f (moreY y t (w % (o.length : Int)).toNat b) t), cI 0]) := h3
  generalize bindsL o f (moreY y t (w % (o.length : Int)).toNat b) t = bm at h3 hx hbl3
  have hfin : ∀ (o' f' : List Ind) (bn : List Bool), ACalls Try.prog 10 [slN o', slN f', slI y, slI t] (.tup [slB bn, cI 0]) → bn.length = o.length → (∀ k, k < o.length → nth bn k = true → nth (bindsL o f y t) k = true) →
      (o' = (if (nth o (w % (o.length : Int)).toNat).majority = (nth f (w % (o.length : Int)).toNat).majority then strOld o (w % (o.length : Int)).toNat b else o)) → (f' = (if (nth o (w % (o.length : Int)).toNat).majority = (nth f (w % (o.length : Int)).toNat).majority then strNew o f (w % (o.length : Int)).toNat b else f)) → ACalls Try.prog 6 [slN o, slN f, slI y, slI t, c8 w, c16 b] (.pv (cB true)) := by
    intro o' f' bn h4 hbl4 hy eo ef
    generalize bindsL o f y t = bs at h2 hx hy hbl
    have hone : ∀ k, k < o.length → ¬ (nth bs k = true ∧ nth bm k = false ∨ nth bn k = true ∧ nth bs k = false) := fun k hk q => by
      rcases q with ⟨q1, q2⟩ | ⟨q1, q2⟩
      · rw [hx k hk q1] at q2; cases q2
      · rw [hy k hk q1] at q2; cases q2
    have hmm : (nth (o.set (w % (o.length : Int)).toNat (withM (nth o (w % (o.length : Int)).toNat) (min ((nth o (w % (o.length : Int)).toNat).majority + b) 1000))) (w % (o.length : Int)).toNat).majority = min ((nth o (w % (o.length : Int)).toNat).majority + b) 1000 := by rw [nth_setG hi, if_pos rfl]; rfl
    by_cases c1 : (0 ≤ nth y (w % (o.length : Int)).toNat ∧ nth y (w % (o.length : Int)).toNat ≤ nth t (w % (o.length : Int)).toNat) ∧ nth t (w % (o.length : Int)).toNat ≤ 1000000000
    all_goals by_cases c2 : (nth o (w % (o.length : Int)).toNat).majority = (nth f (w % (o.length : Int)).toNat).majority
    all_goals
      first | rw [moreY, if_pos c1] at h3 | rw [moreY, if_neg c1] at h3
      first | rw [if_pos c2] at eo ef | rw [if_neg c2] at eo ef
      subst eo ef
      refine ACalls.of_W (qs := [cB true]) [12] 227 Try.func6 (by kernel_rfl) rfl rfl rfl fun G => ?_
      refine W.initA (hw := ?_)
      repeat' (first
        | (refine W.weaken Le.freeze ?_; apply W.region (id := 18))
        | apply RG.nil
        | apply Lex.nil
        | apply Then.n
        | apply Then.r
        | apply Then.x
        | apply InBlock.n
        | apply InBlock.r
        | apply InBlock.hit
        | (apply InBlock.miss; exact rfl)
        | apply W.seq
        | apply W.region
        | apply W.block
        | apply W.skip
        | apply W.ret
        | apply W.exit
        | (apply W.draw2 (id := 11) [0, 0, 3, 7, 15, 31, 63, 63, 255, 511, 63, 63, 3135, 7231, 16383, 32767, 65535, 131071, 131071, 524287, 1048575, 2097151, 4194303] [[17], [16], [83, 84], [85], [86], [87], [17, 88], [16, 88], [89, 90, 88], [91, 88], [3, 88], [16, 88], [93, 94, 88], [95, 88], [92, 96, 88], [88, 97], [98], [3, 99], [16, 99], [100, 101, 99], [102, 99], [103, 99], [99, 104]] 23 [(83, 131072), (84, 65536), (85, 29014219670751100192948224), (86, 38685626227668133590597632), (87, 77371252455336267181195264), (88, 154742504910672534362390528), (89, 309485009821345068724912128), (90, 309485009821345068724846592), (91, 2166395068749415481073467392), (92, 2785365088392105618523029504), (93, 309485009821345068724781064), (94, 309485009821345068724846592), (95, 30020045952670471666303762432), (96, 39923566266953513865496756224), (97, 84489407681227203761865228288), (98, 158765810038350020255812681728), (99, 316912650057057350374175801344), (100, 633825300114114700748351602696), (101, 633825300114114700748351668224), (102, 4436777100798802905238461218816), (103, 5704427701027032306735164424192), (104, 10775030101939949912721977245696), (105, 20916234903765785124695602888704)] mixed (by kernel_rfl) rfl rfl)
        | (apply W.draw2 (id := 12) [0, 0, 0, 0, 12, 28, 0, 64, 252, 0, 0, 1536, 3584, 8188, 16383, 32767] [[17], [16], [17], [16], [108, 109], [110], [5], [112], [111, 113], [3], [16], [115, 116], [117], [114, 118], [106, 107]] 15 [(106, 131072), (107, 65536), (108, 131072), (109, 65536), (110, 973555660975280180349468061728768), (111, 1298074214633706907132624082305024), (112, 32), (113, 5192296858534827628530496329220096), (114, 12980742146337069071326240823050240), (115, 8), (116, 65536), (117, 124615124604835863084731911901282304), (118, 166153499473114484112975882535043072), (119, 353076186380368278740073750386966528), (120, 243388915243820045087367015432192)] mixed (by kernel_rfl) rfl rfl)
        | (apply W.draw2 (id := 15) [0, 0, 3, 7, 15, 0, 0, 96, 224, 480, 1023] [[18], [16], [127, 128], [129], [130], [19], [16], [132, 133], [134], [135], [131, 136]] 11 [(127, 262144), (128, 65536), (129, 510423550381407695195061911147652317184), (130, 680564733841876926926749214863536422912), (131, 1361129467683753853853498429727072845824), (132, 524288), (133, 65536), (134, 16333553612205046246241981156724874149888), (135, 21778071482940061661655974875633165533184), (136, 43556142965880123323311949751266331066368), (137, 89834544867127754354330896361986807824384)] mixed (by kernel_rfl) rfl rfl)
        | ((first | apply U_ | (apply Ug_; exact rfl; exact rfl) | (apply Ugq_; exact rfl; exact rfl) | apply Lex.u | (apply Lex.g; exact rfl; exact rfl) | (apply Lex.gq; exact rfl; exact rfl)); (first
    | exact QX.Move TYok
    | exact QX.Asg TYok
    | exact QX.Fld TYok
    | exact QX.Ld TYok
    | exact QX.Bin TYok
    | exact QX.Pick TYok
    | exact QX.Un TYok
    | exact QX.Num TYok
    | exact QX.Len TYok
    | exact QX.Idx TYok
    | exact QX.Ext TYok
    | exact QX.Conv TYok
    | (apply Q_calld (h0); exact EvD.auto)
    | (apply Q_call (h1); exact EvL.auto; exact rfl)
    | (apply Q_calld (h2); exact EvD.auto)
    | (apply Q_calld (h3); exact EvD.auto)
    | (apply Q_calld (h4); exact EvD.auto)); exact rfl)
        | refine SX.Store TYok (h := ?_)
        | refine SX.Lit TYok (h := ?_)
        | refine SX.App TYok (h := ?_)
        | (apply S_appendd TYok; exact Ev.auto; exact Ev.auto; exact rfl; exact rfl; exact rfl; exact rfl; exact rfl; exact rfl; exact rfl; exact rfl; (intro r hr; obtain ⟨_, _, rfl⟩ := List.mem_map.1 hr; rfl); (constructor <;> simp <;> omega); exact rfl)
        | (apply S_storemf TYok (withM (nth o (w % (o.length : Int)).toNat) (min ((nth o (w % (o.length : Int)).toNat).majority + b) 1000)) inferInstance; exact Ev.auto; exact Ev.auto; exact rfl; exact rfl; (first | omega | (simp; omega)); exact rfl; exact rfl; exact rfl)
        | (apply S_storemf TYok (withM (nth f (w % (o.length : Int)).toNat) (min ((nth o (w % (o.length : Int)).toNat).majority + b) 1000)) inferInstance; exact Ev.auto; exact Ev.auto; exact rfl; exact rfl; (first | omega | (simp; omega)); exact rfl; exact rfl; (rw [hmm]; exact rfl))
        | (apply S_isnil TYok; exact rfl; exact rfl; exact rfl; exact Ev.auto; intro bn hnil)
        | (apply RG.gT; exact rfl; exact rfl; (first | assumption | decide))
        | (apply RG.gF; exact rfl; exact rfl; (first | assumption | decide | (rw [ne_eq, Bool.not_eq_true]; assumption) | (rw [ne_eq, Bool.not_eq_false]; assumption)); exact rfl)
        | (refine W.condA (ht := fun hb => ?_) (hf := fun hb => ?_) <;> (try simp at hb) <;> (try (exfalso; omega))))
      · exact Fin.ret ResL.auto
      apply W.loopP (σ := Nat) 227 [13, 14, 20, 22] (fun k => k ≤ bs.length) (fun k => [(24, vI k)]) (fun _ => []) (fun k => bs.length - k) (0)
      case hp => repeat (first | exact Pick.nil | apply Pick.cons rfl)
      case h0 =>
        refine ⟨by simp, ?_⟩
        exact Le.auto
      case round =>
        rintro k k1
        apply W.norm (by repeat (first | exact App.nil | apply App.cons))
        by_cases hk : k < bs.length
        · have q := hone k (by omega)
          repeat' (first
            | apply RG.nil
            | apply Lex.nil
            | apply Then.n
            | apply Then.r
            | apply Then.x
            | apply InBlock.n
            | apply InBlock.r
            | apply InBlock.hit
            | (apply InBlock.miss; exact rfl)
            | apply W.seq
            | apply W.region
            | apply W.block
            | apply W.skip
            | apply W.ret
            | apply W.exit
            | (apply W.draw2 (id := 11) [0, 0, 3, 7, 15, 31, 63, 63, 255, 511, 63, 63, 3135, 7231, 16383, 32767, 65535, 131071, 131071, 524287, 1048575, 2097151, 4194303] [[17], [16], [83, 84], [85], [86], [87], [17, 88], [16, 88], [89, 90, 88], [91, 88], [3, 88], [16, 88], [93, 94, 88], [95, 88], [92, 96, 88], [88, 97], [98], [3, 99], [16, 99], [100, 101, 99], [102, 99], [103, 99], [99, 104]] 23 [(83, 131072), (84, 65536), (85, 29014219670751100192948224), (86, 38685626227668133590597632), (87, 77371252455336267181195264), (88, 154742504910672534362390528), (89, 309485009821345068724912128), (90, 309485009821345068724846592), (91, 2166395068749415481073467392), (92, 2785365088392105618523029504), (93, 309485009821345068724781064), (94, 309485009821345068724846592), (95, 30020045952670471666303762432), (96, 39923566266953513865496756224), (97, 84489407681227203761865228288), (98, 158765810038350020255812681728), (99, 316912650057057350374175801344), (100, 633825300114114700748351602696), (101, 633825300114114700748351668224), (102, 4436777100798802905238461218816), (103, 5704427701027032306735164424192), (104, 10775030101939949912721977245696), (105, 20916234903765785124695602888704)] mixed (by kernel_rfl) rfl rfl)
            | (apply W.draw2 (id := 12) [0, 0, 0, 0, 12, 28, 0, 64, 252, 0, 0, 1536, 3584, 8188, 16383, 32767] [[17], [16], [17], [16], [108, 109], [110], [5], [112], [111, 113], [3], [16], [115, 116], [117], [114, 118], [106, 107]] 15 [(106, 131072), (107, 65536), (108, 131072), (109, 65536), (110, 973555660975280180349468061728768), (111, 1298074214633706907132624082305024), (112, 32), (113, 5192296858534827628530496329220096), (114, 12980742146337069071326240823050240), (115, 8), (116, 65536), (117, 124615124604835863084731911901282304), (118, 166153499473114484112975882535043072), (119, 353076186380368278740073750386966528), (120, 243388915243820045087367015432192)] mixed (by kernel_rfl) rfl rfl)
            | (apply W.draw2 (id := 15) [0, 0, 3, 7, 15, 0, 0, 96, 224, 480, 1023] [[18], [16], [127, 128], [129], [130], [19], [16], [132, 133], [134], [135], [131, 136]] 11 [(127, 262144), (128, 65536), (129, 510423550381407695195061911147652317184), (130, 680564733841876926926749214863536422912), (131, 1361129467683753853853498429727072845824), (132, 524288), (133, 65536), (134, 16333553612205046246241981156724874149888), (135, 21778071482940061661655974875633165533184), (136, 43556142965880123323311949751266331066368), (137, 89834544867127754354330896361986807824384)] mixed (by kernel_rfl) rfl rfl)
            | ((first | apply U_ | (apply Ug_; exact rfl; exact rfl) | (apply Ugq_; exact rfl; exact rfl) | apply Lex.u | (apply Lex.g; exact rfl; exact rfl) | (apply Lex.gq; exact rfl; exact rfl)); (first
    | exact QX.Move TYok
    | exact QX.Asg TYok
    | exact QX.Fld TYok
    | exact QX.Ld TYok
    | exact QX.Bin TYok
    | exact QX.Pick TYok
    | exact QX.Un TYok
    | exact QX.Num TYok
    | exact QX.Len TYok
    | exact QX.Idx TYok
    | exact QX.Ext TYok
    | exact QX.Conv TYok); exact rfl)
            | refine SX.Store TYok (h := ?_)
            | refine SX.Lit TYok (h := ?_)
            | refine SX.App TYok (h := ?_)
            | (apply S_isnil TYok; exact rfl; exact rfl; exact rfl; exact Ev.auto; intro bn hnil)
            | (apply RG.gT; exact rfl; exact rfl; (first | assumption | decide))
            | (apply RG.gF; exact rfl; exact rfl; (first | assumption | decide | (rw [ne_eq, Bool.not_eq_true]; assumption) | (rw [ne_eq, Bool.not_eq_false]; assumption)); exact rfl)
            | (refine W.condA (ht := fun hb => ?_) (hf := fun hb => ?_) <;> (try simp at hb) <;> (try (exfalso; omega))))
          all_goals first
            | (exfalso; exact q hb)
            | (exfalso; exact q (.inl hb))
            | (exfalso; exact q (.inr hb))
            | (refine ⟨k + 1, by omega, ?_, by (try simp only); omega⟩; exact Le.auto)
        · obtain rfl : k = bs.length := by omega
          repeat' (first
            | apply RG.nil
            | apply Lex.nil
            | apply Then.n
            | apply Then.r
            | apply Then.x
            | apply InBlock.n
            | apply InBlock.r
            | apply InBlock.hit
            | (apply InBlock.miss; exact rfl)
            | apply W.seq
            | apply W.region
            | apply W.block
            | apply W.skip
            | apply W.ret
            | apply W.exit
            | (apply W.draw2 (id := 11) [0, 0, 3, 7, 15, 31, 63, 63, 255, 511, 63, 63, 3135, 7231, 16383, 32767, 65535, 131071, 131071, 524287, 1048575, 2097151, 4194303] [[17], [16], [83, 84], [85], [86], [87], [17, 88], [16, 88], [89, 90, 88], [91, 88], [3, 88], [16, 88], [93, 94, 88], [95, 88], [92, 96, 88], [88, 97], [98], [3, 99], [16, 99], [100, 101, 99], [102, 99], [103, 99], [99, 104]] 23 [(83, 131072), (84, 65536), (85, 29014219670751100192948224), (86, 38685626227668133590597632), (87, 77371252455336267181195264), (88, 154742504910672534362390528), (89, 309485009821345068724912128), (90, 309485009821345068724846592), (91, 2166395068749415481073467392), (92, 2785365088392105618523029504), (93, 309485009821345068724781064), (94, 309485009821345068724846592), (95, 30020045952670471666303762432), (96, 39923566266953513865496756224), (97, 84489407681227203761865228288), (98, 158765810038350020255812681728), (99, 316912650057057350374175801344), (100, 633825300114114700748351602696), (101, 633825300114114700748351668224), (102, 4436777100798802905238461218816), (103, 5704427701027032306735164424192), (104, 10775030101939949912721977245696), (105, 20916234903765785124695602888704)] mixed (by kernel_rfl) rfl rfl)
            | (apply W.draw2 (id := 12) [0, 0, 0, 0, 12, 28, 0, 64, 252, 0, 0, 1536, 3584, 8188, 16383, 32767] [[17], [16], [17], [16], [108, 109], [110], [5], [112], [111, 113], [3], [16], [115, 116], [117], [114, 118], [106, 107]] 15 [(106, 131072), (107, 65536), (108, 131072), (109, 65536), (110, 973555660975280180349468061728768), (111, 1298074214633706907132624082305024), (112, 32), (113, 5192296858534827628530496329220096), (114, 12980742146337069071326240823050240), (115, 8), (116, 65536), (117, 124615124604835863084731911901282304), (118, 166153499473114484112975882535043072), (119, 353076186380368278740073750386966528), (120, 243388915243820045087367015432192)] mixed (by kernel_rfl) rfl rfl)
            | (apply W.draw2 (id := 15) [0, 0, 3, 7, 15, 0, 0, 96, 224, 480, 1023] [[18], [16], [127, 128], [129], [130], [19], [16], [132, 133], [134], [135], [131, 136]] 11 [(127, 262144), (128, 65536), (129, 510423550381407695195061911147652317184), (130, 680564733841876926926749214863536422912), (131, 1361129467683753853853498429727072845824), (132, 524288), (133, 65536), (134, 16333553612205046246241981156724874149888), (135, 21778071482940061661655974875633165533184), (136, 43556142965880123323311949751266331066368), (137, 89834544867127754354330896361986807824384)] mixed (by kernel_rfl) rfl rfl)
            | ((first | apply U_ | (apply Ug_; exact rfl; exact rfl) | (apply Ugq_; exact rfl; exact rfl) | apply Lex.u | (apply Lex.g; exact rfl; exact rfl) | (apply Lex.gq; exact rfl; exact rfl)); (first
    | exact QX.Move TYok
    | exact QX.Asg TYok
    | exact QX.Fld TYok
    | exact QX.Ld TYok
    | exact QX.Bin TYok
    | exact QX.Pick TYok
    | exact QX.Un TYok
    | exact QX.Num TYok
    | exact QX.Len TYok
    | exact QX.Idx TYok
    | exact QX.Ext TYok
    | exact QX.Conv TYok); exact rfl)
            | refine SX.Store TYok (h := ?_)
            | refine SX.Lit TYok (h := ?_)
            | refine SX.App TYok (h := ?_)
            | (apply S_isnil TYok; exact rfl; exact rfl; exact rfl; exact Ev.auto; intro bn hnil)
            | (apply RG.gT; exact rfl; exact rfl; (first | assumption | decide))
            | (apply RG.gF; exact rfl; exact rfl; (first | assumption | decide | (rw [ne_eq, Bool.not_eq_true]; assumption) | (rw [ne_eq, Bool.not_eq_false]; assumption)); exact rfl)
            | (refine W.condA (ht := fun hb => ?_) (hf := fun hb => ?_) <;> (try simp at hb) <;> (try (exfalso; omega))))
          exact Fin.ret ResL.auto
  by_cases c2 : (nth o (w % (o.length : Int)).toNat).majority = (nth f (w % (o.length : Int)).toNat).majority
  · have h4 := binds_ok _ _ y t (strArgs (b := b) ha hi m1)
    rw [binds_zero (str_err he hi hb0.1)] at h4
    exact hfin _ _ _ h4 (by rw [len_binds]; simp [strOld]) (fun k hk q => by
      rw [nth_binds (by simp [strOld]; exact hk)] at q
      rw [nth_binds hk]
      exact str_out he hi hb0.1 c2 hk q) (if_pos c2).symm (if_pos c2).symm
  · exact hfin o f (bindsL o f y t) h2 hbl (fun k hk q => q) (if_neg c2).symm (if_neg c2).symm
end Go.Proofs.Ytionjeodcmnneaa
