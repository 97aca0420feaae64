/-
  FracTells: the row (what came in is read, the contract of the function gives true, and what came in stands; the variable that the row lists holds what the list says), and its tied card.
-/
import Derived.Test.YtipghibmgfhmpaaGreatDoorTellsS13
import Derived.Test.YtipghibmgfhmpaaGreatDoorTellsS09
import Derived.Test.YtipghibmgfhmpaaGreatDoorCards
import Derived.Test.YtipghibmgfhmpaaGreatDoorTie
import Derived.Test.YtipghibmgfhmpaaGreatDoorTellsS03
import Derived.Test.YtipghibmgfhmpaaGreatDoorTellsS08
import Derived.Lib.LaidTab
import Derived.Deep.DeepHandedRow
import Derived.ChangeMaps5
section
set_option linter.unusedVariables false
set_option linter.unusedSimpArgs false
set_option maxHeartbeats 8000000
namespace Go.Proofs.YtipghibmgfhmpaaGreatDoor
open Lf Go
attribute [local irreducible] PureOp EffOp Ev RG W Then InBlock Lf.Fin nth App InitE Pick SubE EvL EvD EvP EvR ResL Lf.Lex SubR SubBR FinO FinM ResM ResD FinS val pw digs trimL
section
theorem same_any (s : Int) (l : List Int) (s' : Int) (l' : List Int) (hl : l.length ≤ 1000000) (hl' : l'.length ≤ 1000000) : ACalls Tryz.prog 14 [fB s l s' l', fB s l s' l'] (.pv (cB true)) := by
  have s1 := sameBig_ok s s l l hl hl
  have s2 := sameBig_ok s' s' l' l' hl' hl'
  rw [decide_eq_true rfl, decide_eq_true rfl, Bool.and_self] at s1 s2
  refine ACalls.of_W (qs := [cB true]) [4] 17 Tryz.func14 (by kernel_rfl) rfl rfl rfl fun G => ?_
  refine W.initA (hw := ?_)
  repeat' (first | ((first | apply U_ | (apply Ug_; exact rfl; exact rfl) | (apply Ugq_; exact rfl; exact rfl)); (first | exact QX.Move TYok | exact QX.Asg TYok | exact QX.Fld TYok | exact QX.Ld TYok | exact QX.Pick TYok | (apply Q_calld (s1); exact EvD.auto) | (apply Q_calld (s2); exact EvD.auto)); exact rfl) | refine SX.Box TYok (h := ?_) | apply RG.nil | apply Lex.nil | apply Then.n | apply Then.r | apply Then.x | apply InBlock.n | apply InBlock.r | apply InBlock.hit | (apply InBlock.miss; exact rfl) | apply W.seq | apply W.region | apply W.block | apply W.skip | apply W.ret | apply W.exit | (apply RG.gT; exact rfl; exact rfl; (first | assumption | decide)) | (apply RG.gF; exact rfl; exact rfl; (first | assumption | decide | (rw [ne_eq, Bool.not_eq_true]; assumption) | (rw [ne_eq, Bool.not_eq_false]; assumption)); exact rfl) | (refine W.condA (ht := fun hb => ?_) (hf := fun hb => ?_) <;> (try simp at hb) <;> (try (exfalso; omega))))
  all_goals exact Fin.ret ResL.auto
def Pr (f g : Nat) (xs : List PV) : Prop := ∃ s l s' l' e, ACalls Tryz.prog f xs (.tup [fB s l s' l', cI e]) ∧ ACalls Tryz.prog g xs (.tup [fB s l s' l', cI e]) ∧ ACalls Tryz.prog 14 [fB s l s' l', fB s l s' l'] (.pv (cB true))
theorem Pr.val {f g : Nat} {xs : List PV} {r : Rat} {e : Int} (h : okF r) (h1 : ACalls Tryz.prog f xs (.tup [zF r, cI e])) (h2 : ACalls Tryz.prog g xs (.tup [zF r, cI e])) : Pr f g xs :=
  ⟨_, _, _, _, _, h1, h2, same_any _ _ _ _ (by have := num_len h.1; omega) (by have := num_len h.2; omega)⟩
theorem Pr.zero {f g : Nat} {xs : List PV} {e : Int} (h1 : ACalls Tryz.prog f xs (.tup [zF0, cI e])) (h2 : ACalls Tryz.prog g xs (.tup [zF0, cI e])) : Pr f g xs :=
  ⟨_, _, _, _, _, h1, h2, same_any _ _ _ _ (by decide) (by decide)⟩
section
variable (s s' t t' : Int) (l l' m m' : List Int) (hl : l.length ≤ 1000000) (hl' : l'.length ≤ 1000000) (hm : m.length ≤ 1000000) (hm' : m'.length ≤ 1000000)
include hl hl' hm hm'
theorem pr_add : Pr 10 11 [fB s l s' l', fB t m t' m'] := by
  by_cases h : rightFB s l s' l' = true ∧ rightFB t m t' m' = true
  · obtain ⟨a, oa, rfl, rfl, rfl, rfl⟩ := frac_of h.1
    obtain ⟨b, ob, rfl, rfl, rfl, rfl⟩ := frac_of h.2
    by_cases k : addOk a b
    · exact Pr.val (by rw [rat_add]; exact okF_of k.1.2.2 k.2 (mul_ne (den_ne a) (den_ne b))) (add_yes a b oa ob k) (qadd_yes a b oa ob k)
    · exact Pr.zero (add_no a b oa ob k) (qadd_no a b oa ob k)
  · exact Pr.zero (fadd_arg s s' t t' l l' m m' (by omega) (by omega) (by omega) (by omega) h) (qadd_arg s s' t t' l l' m m' (by omega) (by omega) (by omega) (by omega) h)
theorem pr_sub : Pr 12 13 [fB s l s' l', fB t m t' m'] := by
  by_cases h : rightFB s l s' l' = true ∧ rightFB t m t' m' = true
  · obtain ⟨a, oa, rfl, rfl, rfl, rfl⟩ := frac_of h.1
    obtain ⟨b, ob, rfl, rfl, rfl, rfl⟩ := frac_of h.2
    by_cases k : subOk a b
    · exact Pr.val (by rw [rat_sub]; exact okF_of k.1.2.2 k.2 (mul_ne (den_ne a) (den_ne b))) (fsub_yes a b oa ob ((sub_add a b).1 k)) (qsub_yes a b oa ob k)
    · exact Pr.zero (fsub_no a b oa ob k) (qsub_no a b oa ob k)
  · exact Pr.zero (fsub_arg s s' t t' l l' m m' (by omega) (by omega) (by omega) (by omega) h) (qsub_arg s s' t t' l l' m m' (by omega) (by omega) (by omega) (by omega) h)
theorem pr_mul : Pr 15 16 [fB s l s' l', fB t m t' m'] := by
  by_cases h : rightFB s l s' l' = true ∧ rightFB t m t' m' = true
  · obtain ⟨a, oa, rfl, rfl, rfl, rfl⟩ := frac_of h.1
    obtain ⟨b, ob, rfl, rfl, rfl, rfl⟩ := frac_of h.2
    by_cases k : mulOk a b
    · exact Pr.val (by rw [rat_mul]; exact okF_of k.1 k.2 (mul_ne (den_ne a) (den_ne b))) (fmul_yes a b oa ob k) (qmul_yes a b oa ob k)
    · exact Pr.zero (fmul_no a b oa ob k) (qmul_no a b oa ob k)
  · exact Pr.zero (fmul_arg s s' t t' l l' m m' (by omega) (by omega) (by omega) (by omega) h) (qmul_arg s s' t t' l l' m m' (by omega) (by omega) (by omega) (by omega) h)
theorem pr_div : Pr 17 18 [fB s l s' l', fB t m t' m'] := by
  by_cases h : rightFB s l s' l' = true ∧ rightFB t m t' m' = true
  · obtain ⟨a, oa, rfl, rfl, rfl, rfl⟩ := frac_of h.1
    obtain ⟨b, ob, rfl, rfl, rfl, rfl⟩ := frac_of h.2
    by_cases h0 : b.num = 0
    · exact Pr.zero (fdiv_zero a b oa ob h0) (qdiv_zero a b oa ob h0)
    · by_cases k : divOk a b
      · exact Pr.val (by rw [rat_div a b h0]; exact okF_of k.1 k.2 (mul_ne (den_ne a) h0)) (fdiv_yes a b oa ob h0 k) (qdiv_yes a b oa ob h0 k)
      · exact Pr.zero (fdiv_no a b oa ob h0 k) (qdiv_no a b oa ob h0 k)
  · exact Pr.zero (fdiv_arg s s' t t' l l' m m' (by omega) (by omega) (by omega) (by omega) h) (qdiv_arg s s' t t' l l' m m' (by omega) (by omega) (by omega) (by omega) h)
theorem pr_cmp : ∃ c, ACalls Tryz.prog 27 [fB s l s' l', fB t m t' m'] (.pv (cI c)) ∧ ACalls Tryz.prog 28 [fB s l s' l', fB t m t' m'] (.pv (cI c)) := by
  by_cases h : rightFB s l s' l' = true ∧ rightFB t m t' m' = true
  · obtain ⟨a, oa, rfl, rfl, rfl, rfl⟩ := frac_of h.1
    obtain ⟨b, ob, rfl, rfl, rfl, rfl⟩ := frac_of h.2
    exact ⟨_, fcmp_ok a b oa ob, qcmp_ok a b oa ob⟩
  · exact ⟨_, fcmp_arg s s' t t' l l' m m' (by omega) (by omega) (by omega) (by omega) h, qcmp_arg s s' t t' l l' m m' (by omega) (by omega) (by omega) (by omega) h⟩
end
theorem pr_new (s t : Int) (l m : List Int) (hl : l.length ≤ 1000000) (hm : m.length ≤ 1000000) : Pr 23 24 [aB s l, aB t m] := by
  by_cases h : rightB s l = true ∧ rightB t m = true
  · obtain ⟨x, ox, rfl, rfl⟩ := right_num h.1
    obtain ⟨y, oy, rfl, rfl⟩ := right_num h.2
    by_cases h0 : y = 0
    · subst h0
      exact Pr.zero (new_zero x ox) (qnew_zero x ox)
    · exact Pr.val (okF_of ox oy h0) (new_ok x y ox oy h0) (qnew_ok x y ox oy h0)
  · exact Pr.zero (new_no s t l m (by omega) (by omega) h) (qnew_no s t l m (by omega) (by omega) h)
theorem pr_of (p q : Int) (hp : i64B p) (hq : i64B q) : Pr 19 20 [cI p, cI q] := by
  by_cases h0 : q = 0
  · subst h0
    exact Pr.zero (Of_zero p hp) (qof_zero p hp)
  · exact Pr.val (okF_of (i64_ok hp) (i64_ok hq) h0) (Of_ok p q hp hq h0) (qof_ok p q hp hq h0)
theorem pr_read (u : Str) (hu : u.length ≤ 9223372036854775806) : ∃ s l s' l' e, GCalls Tryz.prog 3 powC 21 [cS u] (.tup [fB s l s' l', cI e]) ∧ ACalls Tryz.prog 22 [cS u] (.tup [fB s l s' l', cI e]) ∧ ACalls Tryz.prog 14 [fB s l s' l', fB s l s' l'] (.pv (cB true)) := by
  have h1 := fread_ok u hu
  have h2 := qread_ok u hu
  cases hr : readFr u with
  | none =>
    rw [hr] at h1 h2
    exact ⟨_, _, _, _, _, h1, h2, same_any _ _ _ _ (by decide) (by decide)⟩
  | some r =>
    rw [hr] at h1 h2
    have h := (readFr_some hr).1
    exact ⟨_, _, _, _, _, h1, h2, same_any _ _ _ _ (by have := num_len h.1; omega) (by have := num_len h.2; omega)⟩
theorem pr_text (s : Int) (l : List Int) (s' : Int) (l' : List Int) (hl : l.length ≤ 1000000) (hl' : l'.length ≤ 1000000) : ∃ u, GCalls Tryz.prog 3 powC 29 [fB s l s' l'] (.pv (cS u)) ∧ ACalls Tryz.prog 30 [fB s l s' l'] (.pv (cS u)) := by
  cases h : rightFB s l s' l' with
  | true =>
    obtain ⟨a, oa, rfl, rfl, rfl, rfl⟩ := frac_of h
    exact ⟨_, ftext_ok a oa, qtext_ok a oa⟩
  | false => exact ⟨_, GCalls.of_A (ftext_no s l s' l' (by omega) (by omega) h), qtext_no s l s' l' (by omega) (by omega) h⟩
theorem pr_floor (s : Int) (l : List Int) (s' : Int) (l' : List Int) (hl : l.length ≤ 1000000) (hl' : l'.length ≤ 1000000) : ∃ t m, ACalls Tryz.prog 32 [fB s l s' l'] (.pv (aB t m)) ∧ ACalls Tryz.prog 33 [fB s l s' l'] (.pv (aB t m)) ∧ ACalls Tryz.prog 31 [aB t m, aB t m] (.pv (cB true)) := by
  have key : ∀ (t : Int) (m : List Int), m.length ≤ 1000000 → ACalls Tryz.prog 31 [aB t m, aB t m] (.pv (cB true)) := fun t m hm => by
    have := sameBig_ok t t m m hm hm
    rwa [decide_eq_true rfl, decide_eq_true rfl, Bool.and_self] at this
  cases h : rightFB s l s' l' with
  | true =>
    obtain ⟨a, oa, rfl, rfl, rfl, rfl⟩ := frac_of h
    exact ⟨_, _, floor_ok a oa, qfloor_ok a oa, key _ _ (by have := num_len (okZ_quo (x := a.num) oa.1 (den_ne a)); omega)⟩
  | false => exact ⟨_, _, floor_no s l s' l' (by omega) (by omega) h, qfloor_no s l s' l' (by omega) (by omega) h, key _ _ (by rw [show mag 0 = 0 from rfl, digs_zero]; decide)⟩
attribute [local irreducible] sgn mag gcdZ quoZ remZ txtZ readF fullZ fullE rightFB
theorem ftells_ok (s : Int) (l : List Int) (s' : Int) (l' : List Int) (t : Int) (m : List Int) (t' : Int) (m' : List Int) (p q : Int) (u : Str) (h1 : l.length ≤ 9223372036854775807 ∧ l'.length ≤ 9223372036854775807) (h2 : m.length ≤ 9223372036854775807 ∧ m'.length ≤ 9223372036854775807) (hp : i64B p) (hq : i64B q) (hu : u.length ≤ 9223372036854775807) : GCalls Tryz.prog 3 powC 3 [fB s l s' l', fB t m t' m', cI p, cI q, cS u] (.pv (cB true)) := by
  have h0 := small_ok
  have f1 := few_ok s l s' l' 40 h1.1 h1.2
  have f2 := few_ok t m t' m' 40 h2.1 h2.2
  by_cases hw : ((((l.length : Int) ≤ 40 ∧ (l'.length : Int) ≤ 40) ∧ ((m.length : Int) ≤ 40 ∧ (m'.length : Int) ≤ 40)) ∧ (u.length : Int) ≤ 300)
  case neg =>
    generalize hb1 : (decide ((l.length : Int) ≤ 40) && decide ((l'.length : Int) ≤ 40)) = b1 at *
    generalize hb2 : (decide ((m.length : Int) ≤ 40) && decide ((m'.length : Int) ≤ 40)) = b2 at *
    have hbad : (b1 = true ∧ b2 = true) ∧ (u.length : Int) ≤ 300 → False := fun ⟨⟨q1, q2⟩, q3⟩ => hw (by
      rw [← hb1, Bool.and_eq_true, decide_eq_true_iff, decide_eq_true_iff] at q1
      rw [← hb2, Bool.and_eq_true, decide_eq_true_iff, decide_eq_true_iff] at q2
      exact ⟨⟨q1, q2⟩, q3⟩)
    refine GCalls.of_M TYok (qs := [cB true]) [.tmp 10] 230 Tryz.func3 (by kernel_rfl) rfl rfl rfl fun G hG => ?_
    refine W.initA (hw := ?_)
    repeat' (first | ((first | apply U_ | (apply Ug_; exact rfl; exact rfl) | (apply Ugq_; exact rfl; exact rfl) | apply Lex.u | (apply Lex.g; exact rfl; exact rfl) | (apply Lex.gq; exact rfl; exact rfl)); (first | exact QX.Move TYok | exact QX.Asg TYok | exact QX.Fld TYok | exact QX.Ld TYok | exact QX.Bin TYok | exact QX.Pick TYok | exact QX.Un TYok | exact QX.Len TYok | exact QX.Ext TYok | (apply Q_callGd hG (h0); exact EvD.auto) | (apply Q_callG hG (h0); exact EvL.auto; exact rfl) | (apply Q_calld (f1); exact EvD.auto) | (apply Q_calld (f2); exact EvD.auto)); exact rfl) | refine SX.Alloc TYok (h := ?_) | refine SX.Store TYok (h := ?_) | refine SX.Box TYok (h := ?_) | apply RG.nil | apply Lex.nil | apply Then.n | apply Then.r | apply Then.x | apply InBlock.n | apply InBlock.r | apply InBlock.hit | (apply InBlock.miss; exact rfl) | apply W.seq | apply W.region | apply W.block | apply W.skip | apply W.ret | apply W.exit | (apply S_isnil TYok; exact rfl; exact rfl; exact rfl; exact Ev.auto; intro bn hnil) | (apply RG.gT; exact rfl; exact rfl; (first | assumption | decide)) | (apply RG.gF; exact rfl; exact rfl; (first | assumption | decide | (rw [ne_eq, Bool.not_eq_true]; assumption) | (rw [ne_eq, Bool.not_eq_false]; assumption)); exact rfl) | (apply W.draw2 (id := 21) [0, 0, 3, 7, 15, 15, 63, 127, 255, 511, 1023, 511, 4095, 8191, 16383, 32767, 65535, 65535, 262143, 65535, 65535, 2097151, 4194303, 8388607, 16777215] [[13], [15], [179, 180], [181], [12, 182], [14, 182], [183, 184, 182], [182, 185], [186], [5, 187], [188, 187], [5, 187], [190, 187], [189, 191, 187], [187, 192], [193], [5, 194], [6, 194], [195, 196, 194], [5, 194], [6, 194], [198, 199, 194], [197, 200, 194], [194, 201], [202]] 25 [(179, 8192), (180, 32768), (181, 2298743311298833287537520540725463775428108683275403264), (182, 3064991081731777716716694054300618367237478244367204352), (183, 6129982163463555433433388108601236734474956488734412800), (184, 6129982163463555433433388108601236734474956488734425088), (185, 42909875144244888034033716760208657141324695421140860928), (186, 55169839471171998900900492977411130610274608398609678336), (187, 98079714615416886934934209737619787751599303819750539264), (188, 196159429230833773869868419475239575503198607639501078560), (189, 588478287692501321609605258425718726509595822918503235584), (190, 196159429230833773869868419475239575503198607639501078560), (191, 1765434863077503964828815775277156179528787468755509706752), (192, 4119348013847509251267236808980031085567170760429522649088), (193, 6473261164617514537705657842682905991605554052103535591424), (194, 12554203470773361527671578846415332832204710888928069025792), (195, 25108406941546723055343157692830665664409421777856138051616), (196, 25108406941546723055343157692830665664409421777856138051648), (197, 175758848590827061387402103849814659650865952444992966361088), (198, 25108406941546723055343157692830665664409421777856138051616), (199, 25108406941546723055343157692830665664409421777856138051648), (200, 1230311940135789429711814726948702617556061667114950764527616), (201, 1832913706732910783040050511576638593501887789783498077765632), (202, 3238984495459527274139267342375155870708815409343441808654336), (23, 6427752177035961102167848369364650410088811975131171341205504)] mixed (by kernel_rfl) rfl rfl) | (apply W.draw2 (id := 22) [0, 1, 3, 7, 15, 31, 63, 127, 255, 511, 1023, 2047, 4095, 8191, 16383, 32767, 16383, 131071, 262143, 524287, 1048575, 2097151, 4194303, 2097151, 16777215, 33554431, 67108863, 134217727] [[11], [203], [20, 204], [204, 205], [206], [21, 207], [207, 208], [209], [22, 210], [210, 211], [212], [23, 213], [213, 214], [215], [5, 216], [217, 216], [5, 216], [219, 216], [218, 220, 216], [216, 221], [222], [5, 223], [224, 223], [5, 223], [226, 223], [225, 227, 223], [223, 228], [229]] 28 [(203, 2048), (204, 12855504354071922204335696738729300820177623950262342682411008), (205, 25711008708143844408671393477458601640355247900524685365870592), (206, 77133026124431533226014180432375804921065743701574056094466048), (207, 102844034832575377634685573909834406561420991602098741459288064), (208, 205688069665150755269371147819668813122841983204197482920673280), (209, 617064208995452265808113443459006439368525949612592448755728384), (210, 822752278660603021077484591278675252491367932816789931674304512), (211, 1645504557321206042154969182557350504982735865633579863352803328), (212, 4936513671963618126464907547672051514948207596900739590045827072), (213, 6582018229284824168619876730229402019930943462534319453394436096), (214, 13164036458569648337239753460458804039861886925068638906797260800), (215, 39492109375708945011719260381376412119585660775205916720366616576), (216, 52656145834278593348959013841835216159447547700274555627155488768), (217, 105312291668557186697918027683670432318895095400549111254310977568), (218, 315936875005671560093754083051011296956685286201647333762932932608), (219, 105312291668557186697918027683670432318895095400549111254310977568), (220, 947810625017014680281262249153033890870055858604942001288798797824), (221, 2211558125039700920656278581357079078696797003411531336340530528256), (222, 3475305625062387161031294913561124266523538148218120671392262258688), (223, 6739986666787659948666753771754907668409286105635143120275902562304), (224, 13479973333575319897333507543509815336818572211270286240551805124640), (225, 40439920000725959692000522630529446010455716633810858721655415373824), (226, 13479973333575319897333507543509815336818572211270286240551805124640), (227, 121319760002177879076001567891588338031367149901432576164966246121472), (228, 283079440005081717844003658413706122073190016436676011051587907616768), (229, 444839120007985556612005748935823906115012882971919445938209569112064), (10, 862718293348820473429344482784628181556388621521298319395315527974912)] mixed (by kernel_rfl) rfl rfl) | (refine W.condA (ht := fun hb => ?_) (hf := fun hb => ?_) <;> (try simp at hb) <;> (try (exfalso; first | exact hbad hb | omega))))
    all_goals exact FinM.ret ResM.auto
  obtain ⟨⟨⟨w1, w2⟩, w3, w4⟩, w5⟩ := hw
  rw [decide_eq_true w1, decide_eq_true w2, Bool.and_self] at f1
  rw [decide_eq_true w3, decide_eq_true w4, Bool.and_self] at f2
  obtain ⟨a1, a2, a3, a4, a5, ad, ae, af⟩ := pr_add s s' t t' l l' m m' (by omega) (by omega) (by omega) (by omega)
  obtain ⟨b1, b2, b3, b4, b5, bd, be, bf⟩ := pr_sub s s' t t' l l' m m' (by omega) (by omega) (by omega) (by omega)
  obtain ⟨c1, c2, c3, c4, c5, cd, ce, cf⟩ := pr_mul s s' t t' l l' m m' (by omega) (by omega) (by omega) (by omega)
  obtain ⟨d1, d2, d3, d4, d5, dd, de, df⟩ := pr_div s s' t t' l l' m m' (by omega) (by omega) (by omega) (by omega)
  obtain ⟨e1, e2, e3, e4, e5, ed, ee, ef⟩ := pr_of p q hp hq
  obtain ⟨g1, g2, g3, g4, g5, gd, ge, gf⟩ := pr_read u (by omega)
  obtain ⟨i1, i2, i3, i4, i5, id', ie, if'⟩ := pr_new s t l m (by omega) (by omega)
  have r1 := fright_ok s l s' l' (by omega) (by omega)
  have r2 := qright_ok s l s' l' (by omega) (by omega)
  obtain ⟨k1, kd, ke⟩ := pr_cmp s s' t t' l l' m m' (by omega) (by omega) (by omega) (by omega)
  obtain ⟨x1, xd, xe⟩ := pr_text s l s' l' (by omega) (by omega)
  obtain ⟨y1, y2, yd, ye, yf⟩ := pr_floor s l s' l' (by omega) (by omega)
  generalize rightFB s l s' l' = z at *
  refine GCalls.of_M TYok (qs := [cB true]) [.tmp 10] 230 Tryz.func3 (by kernel_rfl) rfl rfl rfl fun G hG => ?_
  refine W.initA (hw := ?_)
  repeat' (first | (refine W.purgeR [(4, [2, 3, 4, 5, 6, 11]), (8, [2, 3, 4, 5, 6, 11, 12, 13, 14, 15, 16, 17, 18, 19]), (9, [2, 3, 4, 5, 6, 11, 12, 14, 16, 18, 20]), (13, [2, 3, 4, 5, 6, 11, 12, 13, 14, 15, 16, 17, 18, 19, 20]), (14, [2, 3, 4, 5, 6, 11, 12, 14, 16, 18, 20, 21]), (18, [5, 6, 11, 12, 13, 14, 15, 16, 17, 18, 19, 20, 21]), (19, [5, 6, 11, 12, 14, 20, 21, 22]), (21, [5, 6, 11, 12, 13, 14, 15, 20, 21, 22]), (22, [5, 11, 20, 21, 22, 23])] rfl (by repeat (first | exact PN.nil | apply PN.po rfl | (apply PN.pa; exact rfl; (repeat (first | (apply NR.cons; exact rfl) | exact NR.nil rfl))) | apply PN.a rfl | apply PN.s rfl | apply PN.u rfl | apply PN.m rfl | apply PN.k rfl | apply PN.i rfl | apply PN.skip)) (by repeat (first | exact PB.nil | (apply PB.one; exact rfl; (focus (first | (dsimp only; done) | (dsimp only; exact rfl) | exact rfl)); (focus (first | (dsimp only; done) | (dsimp only; exact rfl) | exact rfl)); exact rfl; (repeat (first | (apply NR.cons; exact rfl) | exact NR.nil rfl)))  | apply PB.cons rfl)) ?_) | ((first | apply U_ | (apply Ug_; exact rfl; exact rfl) | (apply Ugq_; exact rfl; exact rfl) | apply Lex.u | (apply Lex.g; exact rfl; exact rfl) | (apply Lex.gq; exact rfl; exact rfl)); (first | exact QX.Move TYok | exact QX.Asg TYok | exact QX.Fld TYok | exact QX.Ld TYok | exact QX.Bin TYok | exact QX.Pick TYok | exact QX.Un TYok | exact QX.Len TYok | exact QX.Ext TYok | (apply Q_callGd hG (h0); exact EvD.auto) | (apply Q_callG hG (h0); exact EvL.auto; exact rfl) | (apply Q_calld (f1); exact EvD.auto) | (apply Q_calld (f2); exact EvD.auto) | (apply Q_calld (ad); exact EvD.auto) | (apply Q_calld (ae); exact EvD.auto) | (apply Q_calld (af); exact EvD.auto) | (apply Q_calld (bd); exact EvD.auto) | (apply Q_calld (be); exact EvD.auto) | (apply Q_calld (bf); exact EvD.auto) | (apply Q_calld (cd); exact EvD.auto) | (apply Q_calld (ce); exact EvD.auto) | (apply Q_calld (cf); exact EvD.auto) | (apply Q_calld (dd); exact EvD.auto) | (apply Q_calld (de); exact EvD.auto) | (apply Q_calld (df); exact EvD.auto) | (apply Q_calld (ed); exact EvD.auto) | (apply Q_calld (ee); exact EvD.auto) | (apply Q_calld (ef); exact EvD.auto) | (apply Q_callG hG (gd); exact EvL.auto; exact rfl) | (apply Q_callGd hG (gd); exact EvD.auto) | (apply Q_calld (ge); exact EvD.auto) | (apply Q_calld (gf); exact EvD.auto) | (apply Q_calld (id'); exact EvD.auto) | (apply Q_calld (ie); exact EvD.auto) | (apply Q_calld (if'); exact EvD.auto) | (apply Q_calld (r1); exact EvD.auto) | (apply Q_calld (r2); exact EvD.auto) | (apply Q_calld (kd); exact EvD.auto) | (apply Q_calld (ke); exact EvD.auto) | (apply Q_callG hG (xd); exact EvL.auto; exact rfl) | (apply Q_callGd hG (xd); exact EvD.auto) | (apply Q_calld (xe); exact EvD.auto) | (apply Q_calld (yd); exact EvD.auto) | (apply Q_calld (ye); exact EvD.auto) | (apply Q_calld (yf); exact EvD.auto)); exact rfl) | refine SX.Alloc TYok (h := ?_) | refine SX.Store TYok (h := ?_) | refine SX.Box TYok (h := ?_) | apply RG.nil | apply Lex.nil | apply Then.n | apply Then.r | apply Then.x | apply InBlock.n | apply InBlock.r | apply InBlock.hit | (apply InBlock.miss; exact rfl) | apply W.seq | apply W.region | apply W.block | apply W.skip | apply W.ret | apply W.exit | (apply S_isnil TYok; exact rfl; exact rfl; exact rfl; exact Ev.auto; intro bn hnil) | (apply RG.gT; exact rfl; exact rfl; (first | assumption | decide)) | (apply RG.gF; exact rfl; exact rfl; (first | assumption | decide | (rw [ne_eq, Bool.not_eq_true]; assumption) | (rw [ne_eq, Bool.not_eq_false]; assumption)); exact rfl) | (apply W.draw2 (id := 21) [0, 0, 3, 7, 15, 15, 63, 127, 255, 511, 1023, 511, 4095, 8191, 16383, 32767, 65535, 65535, 262143, 65535, 65535, 2097151, 4194303, 8388607, 16777215] [[13], [15], [179, 180], [181], [12, 182], [14, 182], [183, 184, 182], [182, 185], [186], [5, 187], [188, 187], [5, 187], [190, 187], [189, 191, 187], [187, 192], [193], [5, 194], [6, 194], [195, 196, 194], [5, 194], [6, 194], [198, 199, 194], [197, 200, 194], [194, 201], [202]] 25 [(179, 8192), (180, 32768), (181, 2298743311298833287537520540725463775428108683275403264), (182, 3064991081731777716716694054300618367237478244367204352), (183, 6129982163463555433433388108601236734474956488734412800), (184, 6129982163463555433433388108601236734474956488734425088), (185, 42909875144244888034033716760208657141324695421140860928), (186, 55169839471171998900900492977411130610274608398609678336), (187, 98079714615416886934934209737619787751599303819750539264), (188, 196159429230833773869868419475239575503198607639501078560), (189, 588478287692501321609605258425718726509595822918503235584), (190, 196159429230833773869868419475239575503198607639501078560), (191, 1765434863077503964828815775277156179528787468755509706752), (192, 4119348013847509251267236808980031085567170760429522649088), (193, 6473261164617514537705657842682905991605554052103535591424), (194, 12554203470773361527671578846415332832204710888928069025792), (195, 25108406941546723055343157692830665664409421777856138051616), (196, 25108406941546723055343157692830665664409421777856138051648), (197, 175758848590827061387402103849814659650865952444992966361088), (198, 25108406941546723055343157692830665664409421777856138051616), (199, 25108406941546723055343157692830665664409421777856138051648), (200, 1230311940135789429711814726948702617556061667114950764527616), (201, 1832913706732910783040050511576638593501887789783498077765632), (202, 3238984495459527274139267342375155870708815409343441808654336), (23, 6427752177035961102167848369364650410088811975131171341205504)] mixed (by kernel_rfl) rfl rfl) | (apply W.draw2 (id := 22) [0, 1, 3, 7, 15, 31, 63, 127, 255, 511, 1023, 2047, 4095, 8191, 16383, 32767, 16383, 131071, 262143, 524287, 1048575, 2097151, 4194303, 2097151, 16777215, 33554431, 67108863, 134217727] [[11], [203], [20, 204], [204, 205], [206], [21, 207], [207, 208], [209], [22, 210], [210, 211], [212], [23, 213], [213, 214], [215], [5, 216], [217, 216], [5, 216], [219, 216], [218, 220, 216], [216, 221], [222], [5, 223], [224, 223], [5, 223], [226, 223], [225, 227, 223], [223, 228], [229]] 28 [(203, 2048), (204, 12855504354071922204335696738729300820177623950262342682411008), (205, 25711008708143844408671393477458601640355247900524685365870592), (206, 77133026124431533226014180432375804921065743701574056094466048), (207, 102844034832575377634685573909834406561420991602098741459288064), (208, 205688069665150755269371147819668813122841983204197482920673280), (209, 617064208995452265808113443459006439368525949612592448755728384), (210, 822752278660603021077484591278675252491367932816789931674304512), (211, 1645504557321206042154969182557350504982735865633579863352803328), (212, 4936513671963618126464907547672051514948207596900739590045827072), (213, 6582018229284824168619876730229402019930943462534319453394436096), (214, 13164036458569648337239753460458804039861886925068638906797260800), (215, 39492109375708945011719260381376412119585660775205916720366616576), (216, 52656145834278593348959013841835216159447547700274555627155488768), (217, 105312291668557186697918027683670432318895095400549111254310977568), (218, 315936875005671560093754083051011296956685286201647333762932932608), (219, 105312291668557186697918027683670432318895095400549111254310977568), (220, 947810625017014680281262249153033890870055858604942001288798797824), (221, 2211558125039700920656278581357079078696797003411531336340530528256), (222, 3475305625062387161031294913561124266523538148218120671392262258688), (223, 6739986666787659948666753771754907668409286105635143120275902562304), (224, 13479973333575319897333507543509815336818572211270286240551805124640), (225, 40439920000725959692000522630529446010455716633810858721655415373824), (226, 13479973333575319897333507543509815336818572211270286240551805124640), (227, 121319760002177879076001567891588338031367149901432576164966246121472), (228, 283079440005081717844003658413706122073190016436676011051587907616768), (229, 444839120007985556612005748935823906115012882971919445938209569112064), (10, 862718293348820473429344482784628181556388621521298319395315527974912)] mixed (by kernel_rfl) rfl rfl) | (refine W.condA (ht := fun hb => ?_) (hf := fun hb => ?_) <;> (try simp at hb) <;> (try (exfalso; omega))))
  all_goals first
    | exact FinM.ret ResM.auto
    | exact FinM.ret (ResM.tmp rfl rfl (PSub.of_eq (congrArg (fun b => PV.one (Cell.bool b)) (by simp))) ResM.nil)
    | trace_state
end
end Go.Proofs.YtipghibmgfhmpaaGreatDoor
end
section
namespace Go.Proofs.YtipghibmgfhmpaaGreatDoor
open Lf Go Go.RowKit
theorem gPow : Tryz.prog.globalNamed "internal/strconv.uint64pow10" = some 3 := by kernel_rfl
theorem gPowType : (Tryz.prog.globals[3]?).map (·.type) = some 143 := by kernel_rfl
theorem cells143 : Tryz.prog.cellsOf 143 = 20 := by kernel_rfl
theorem cells66 : Tryz.prog.cellsOf 66 = 1 := by kernel_rfl
theorem tab_at {P : Program} {W : World} {name : String} {k : IntKind} {zs : List Int} {rest : List (String × DataW Unit)} {ps : List MemPlace} {g : Nat} {t e : TypeId} {n : Nat}
    (hg : P.globalNamed name = some g) (hty : (P.globals[g]?).map (·.type) = some t) (ht : P.underlying t = some (.array n e)) (he : P.underlying e = some (.int k)) (hce : P.cellsOf e = 1) (hct : P.cellsOf t = n)
    (h : DataW.LaidVars P W ((name, Lib.tabData k zs) :: rest) ps) : Lib.TabIs P W name k zs := by
  obtain ⟨g', t', cs, fuel, p, q, hg', ht', hvar, hd, _, _⟩ := h
  obtain rfl := Option.some.inj (hg.symm.trans hg')
  obtain rfl := Option.some.inj (hty.symm.trans ht')
  unfold Lib.TabIs
  rw [hvar, ← Lib.cells_of_tab ht he hce hct hd]
theorem laid_tail {P : Program} {W : World} {x : String × DataW Unit} {rest : List (String × DataW Unit)} {ps : List MemPlace} (h : DataW.LaidVars P W (x :: rest) ps) : ∃ q, DataW.LaidVars P W rest q := by
  obtain ⟨g', t', cs, fuel, p, q, hg', ht', hvar, hd, h, _⟩ := h
  exact ⟨q, h⟩
theorem pow_of {W : World} (h : laidMet Tryz.prog [("math/bits.deBruijn32tab", Rows.laid_math_bits_deBruijn32tab), ("math/bits.deBruijn64tab", Rows.laid_math_bits_deBruijn64tab), ("internal/strconv.uint64pow10", Rows.laid_internal_strconv_uint64pow10), ("unicode/utf8.acceptRanges", Rows.laid_unicode_utf8_acceptRanges), ("unicode/utf8.first", Rows.laid_unicode_utf8_first)] W) : RelG (allΦ W) 3 powC := by
  obtain ⟨ps, h, _⟩ := h
  obtain ⟨p1, h⟩ := laid_tail h
  obtain ⟨p2, h⟩ := laid_tail h
  exact relG_of gPow (tab_at (k := .u64) (zs := Lib.pow10Tab) gPow gPowType Tryz.underlying143 Tryz.underlying66 cells66 cells143 h)
/-- what a list's datum lays in memory -/
def vals : Nat → DataW Unit → List Value
  | 0, _ => []
  | n + 1, .agg l => l.flatMap (vals n)
  | _ + 1, .lit (.int k z) => [.int k z]
  | _ + 1, _ => []
noncomputable def lay (d : DataW Unit) : Obj → Obj
  | .cells _ t frozen => .cells (vals 4 d).toArray t frozen
  | o => o
/-- a world in which the variables hold what their initialisers lay -/
noncomputable def laidWorld (os : Os) : World :=
  { World.holding Tryz.prog os ⟨#[], #[], []⟩ with heap := (((((World.holding Tryz.prog os ⟨#[], #[], []⟩).heap.modify 4 (lay Rows.laid_math_bits_deBruijn32tab)).modify 5 (lay Rows.laid_math_bits_deBruijn64tab)).modify 3 (lay Rows.laid_internal_strconv_uint64pow10)).modify 2 (lay Rows.laid_unicode_utf8_acceptRanges)).modify 1 (lay Rows.laid_unicode_utf8_first) }
structure BV where
  s : Int
  l : List Int
abbrev encB (b : BV) : List Cell := [.int .i64 b.s, .sl (b.l.map Lf.encI)]
theorem int_of1 {n : Nat} {cs : List Cell} (h : TyL TY (n + 1) 3 cs) : ∃ i : Int, cs = Lf.encI i ∧ True := by
  obtain ⟨i, rfl, _⟩ : ∃ i, cs = [.int .i64 i] ∧ (Lit.int .i64 i).wf = true := h
  exact ⟨i, rfl, trivial⟩
theorem big_of {n : Nat} {cs : List Cell} (h : TyL TY (n + 3) 24 cs) : ∃ b : BV, cs = encB b ∧ b.l.length ≤ 9223372036854775807 := by
  obtain ⟨a1, b1, rfl, t1, a2, b2, rfl, t2, rfl⟩ : ∃ a1 b1, cs = a1 ++ b1 ∧ TyL TY (n + 2) 3 a1 ∧ ∃ a2 b2, b1 = a2 ++ b2 ∧ TyL TY (n + 2) 22 a2 ∧ b2 = [] := h
  obtain ⟨s, rfl, _⟩ : ∃ i, a1 = [.int .i64 i] ∧ (Lit.int .i64 i).wf = true := t1
  obtain ⟨rows, rfl, hl, h3⟩ : ∃ rows, a2 = [Cell.sl rows] ∧ rows.length ≤ maxLen ∧ ∀ r ∈ rows, TyL TY (n + 1) 3 r := t2
  obtain ⟨l, rfl, _⟩ := rows_map (f := Lf.encI) (p := fun _ => True) fun r hr => int_of1 (h3 r hr)
  exact ⟨⟨s, l⟩, rfl, by simp only [List.length_map] at hl; unfold maxLen at hl; exact hl⟩
structure FV where
  p : BV
  q : BV
abbrev encFV (f : FV) : List Cell := [.int .i64 f.p.s, .sl (f.p.l.map Lf.encI), .int .i64 f.q.s, .sl (f.q.l.map Lf.encI)]
theorem frv_of {n : Nat} {cs : List Cell} (h : TyL TY (n + 4) 26 cs) : ∃ f : FV, cs = encFV f ∧ f.p.l.length ≤ 9223372036854775807 ∧ f.q.l.length ≤ 9223372036854775807 := by
  obtain ⟨a1, b1, rfl, t1, a2, b2, rfl, t2, rfl⟩ : ∃ a1 b1, cs = a1 ++ b1 ∧ TyL TY (n + 3) 24 a1 ∧ ∃ a2 b2, b1 = a2 ++ b2 ∧ TyL TY (n + 3) 24 a2 ∧ b2 = [] := h
  obtain ⟨x, rfl, hx⟩ := big_of t1
  obtain ⟨y, rfl, hy⟩ := big_of t2
  exact ⟨⟨x, y⟩, rfl, hx, hy⟩
end Go.Proofs.YtipghibmgfhmpaaGreatDoor
end
section
namespace Go.Proofs.YtipghibmgfhmpaaGreatDoor
open Lf Go Go.ChangeShapes Go.WideShapes Go.ChangeAt Go.RowKit
theorem str_room {s : ByteArray} (h : s.size ≤ maxLen) : s.data.toList.length ≤ 9223372036854775807 := by
  have := str_size s
  unfold maxLen at h; omega
namespace TellsRow
theorem own : ownKnob Tryz.prog.godebug = none := by kernel_rfl
theorem laidOut : laidOutB Tryz.prog = true := by kernel_rfl
set_option maxRecDepth 100000 in
theorem contract (H : Type) (enc : TypeId × Value → H) (W : World) (base : Nat) (args : Array Value) (ds gs : List (DataW H)) (before : List MemPlace)
    (hval0 : ∀ (j : Nat) t v, Tryz.f3.params[j]? = some t → args[j]? = some v → Value.okWide Tryz.prog W .any base t v)
    (hW : DataW.Whole enc Tryz.prog Tryz.f3.params.toList Rows.fracTellsSpec.vars false W args.toList ds gs before) (hL : laidMetH Tryz.prog Rows.fracTellsRow.laid W) :
    Calls Tryz.prog 3 args W fun e W' => ∃ v, e = .returned v ∧ Rows.fracTellsSpec.post enc Tryz.prog Tryz.f3 false true false false W args v W' := by
  have hval : ∀ (j : Nat) t v, Tryz.f3.params[j]? = some t → args[j]? = some v → Value.okWide Tryz.prog W .any base t v := hval0
  have hW' := hW
  obtain ⟨p, q, hA0, hV, rfl, hfz, hnd⟩ := hW
  have hA : DataW.TrodAll enc Tryz.prog W 0 (fun _ => true) true Tryz.f3.params.toList args.toList ds p := hA0
  rw [Tryz.params3] at hA hval
  obtain ⟨v0, vs0, d0, ds0, p0, q0, hargs, rfl, rfl, h0, r0⟩ := trodAll_cons hA
  obtain ⟨v1, vs1, d1, ds1, p1, q1, rfl, rfl, rfl, h1, r1⟩ := trodAll_cons r0
  obtain ⟨v2, vs2, d2, ds2, p2, q2, rfl, rfl, rfl, h2, r2⟩ := trodAll_cons r1
  obtain ⟨v3, vs3, d3, ds3, p3, q3, rfl, rfl, rfl, h3, r3⟩ := trodAll_cons r2
  obtain ⟨v4, vs4, d4, ds4, p4, q4, rfl, rfl, rfl, h4, r4⟩ := trodAll_cons r3
  obtain ⟨rfl, rfl, rfl⟩ := trodAll_nil r4
  obtain rfl : args = #[v0, v1, v2, v3, v4] := by cases args; simp_all
  obtain ⟨rfl, rfl⟩ := trodVars_none hV
  have k0 := h0
  have lt0 : ∀ x ∈ p0, x.block < W.heap.size := by obtain ⟨m, hm⟩ := k0; exact DataW.trod_lt m _ _ _ hm
  obtain ⟨c0, rel0, ty0⟩ := read_struct TYok 4 Tryz.underlying26 (by kernel_rfl) (hval 0 26 v0 rfl rfl) h0
  obtain ⟨a0, rfl, w0⟩ := frv_of ty0
  have k1 := h1
  have lt1 : ∀ x ∈ p1, x.block < W.heap.size := by obtain ⟨m, hm⟩ := k1; exact DataW.trod_lt m _ _ _ hm
  obtain ⟨c1, rel1, ty1⟩ := read_struct TYok 4 Tryz.underlying26 (by kernel_rfl) (hval 1 26 v1 rfl rfl) h1
  obtain ⟨a1, rfl, w1⟩ := frv_of ty1
  obtain ⟨a2, rfl, rfl, rfl, w2⟩ := open_int Tryz.underlying3 (hval 2 3 v2 rfl rfl) h2
  obtain ⟨a3, rfl, rfl, rfl, w3⟩ := open_int Tryz.underlying3 (hval 3 3 v3 rfl rfl) h3
  obtain ⟨a4, rfl, rfl, rfl, w4⟩ := Go.ChangeMaps.open_string Tryz.underlying9 (hval 4 9 v4 rfl rfl) h4
  clear hA0 hval0
  have hc := (ftells_ok a0.p.s a0.p.l a0.q.s a0.q.l a1.p.s a1.p.l a1.q.s a1.q.l a2 a3 a4.data.toList w0 w1 (by have q := w2; simp [Lit.wf, show IntKind.i64.min = -9223372036854775808 from by decide, show IntKind.i64.max = 9223372036854775807 from by decide] at q; unfold i64B; omega) (by have q := w3; simp [Lit.wf, show IntKind.i64.min = -9223372036854775808 from by decide, show IntKind.i64.max = 9223372036854775807 from by decide] at q; unfold i64B; omega) (str_room w4)).calls (allΦ W) W #[v0, v1, .int .i64 a2, .int .i64 a3, .string a4] (fits_all W) (pow_of hL)
    (ArgsRel.of (ArgsL.cons rel0 (ArgsL.cons rel1 (ArgsL.cons (Rel.int _ _) (ArgsL.cons (Rel.int _ _) (ArgsL.cons (Rel.str _) ArgsL.nil))))))
  refine hc.mono fun e W' ⟨v, Φ', he, hv, _, _, _, bel⟩ => ?_
  subst he
  obtain rfl : v = .bool true := AVRel.bool hv
  exact ⟨_, rfl, _, _, _, [], _, [], hW', trodAll_mk1 (shut_bool Tryz.underlying4 _), (trodAll_cons_mk (Below.trod laidOut (by kernel_rfl) (of_decide_eq_true (by kernel_rfl)) k0 bel lt0) (trodAll_cons_mk (Below.trod laidOut (by kernel_rfl) (of_decide_eq_true (by kernel_rfl)) k1 bel lt1) (trodAll_cons_mk (shut_int Tryz.underlying3 w2) (trodAll_cons_mk (shut_int Tryz.underlying3 w3) (trodAll_cons_mk (Go.ChangeMaps.shut_string Tryz.underlying9 w4) trodAll_mk0))))), rfl, bel.frame _, fun h => by cases h⟩
theorem laid_met (os : Os) : laidMet Tryz.prog Rows.fracTellsRow.laid ((laidWorld os).forCall (fun _ _ => 0) ⟨#[], #[Value.agg #[Value.int .i64 0, Value.slice none 0 0, Value.int .i64 0, Value.slice none 0 0], Value.agg #[Value.int .i64 0, Value.slice none 0 0, Value.int .i64 0, Value.slice none 0 0], .int .i64 0, .int .i64 0, .string ⟨#[]⟩], []⟩).memory :=
  laidMet_of_run' 8 (by kernel_rfl) (by kernel_rfl)
theorem reads (os : Os) {H : Type} (enc : TypeId × Value → H) : ∃ places, DataW.whole enc Tryz.prog ((laidWorld os).forCall (fun _ _ => 0) ⟨#[], #[Value.agg #[Value.int .i64 0, Value.slice none 0 0, Value.int .i64 0, Value.slice none 0 0], Value.agg #[Value.int .i64 0, Value.slice none 0 0, Value.int .i64 0, Value.slice none 0 0], .int .i64 0, .int .i64 0, .string ⟨#[]⟩], []⟩).memory Tryz.f3.params.toList Rows.fracTellsSpec.vars false (#[Value.agg #[Value.int .i64 0, Value.slice none 0 0, Value.int .i64 0, Value.slice none 0 0], Value.agg #[Value.int .i64 0, Value.slice none 0 0, Value.int .i64 0, Value.slice none 0 0], .int .i64 0, .int .i64 0, .string ⟨#[]⟩] : Array Value).toList 8 = some ([DataW.agg [DataW.agg [DataW.lit (.int .i64 0), DataW.nil], DataW.agg [DataW.lit (.int .i64 0), DataW.nil]], DataW.agg [DataW.agg [DataW.lit (.int .i64 0), DataW.nil], DataW.agg [DataW.lit (.int .i64 0), DataW.nil]], .lit (.int .i64 0), .lit (.int .i64 0), .lit (.string [])], [], places) :=
  ⟨[], by kernel_rfl⟩
set_option maxRecDepth 100000 in
theorem lifted (os : Os) (started : os.Started) (H : Type) (enc : TypeId × Value → H) (Fi : Stop.Interp) :
    ReturnsInHanded {} Tryz.checked os 3 .any ((OpenSpec.ofChange Rows.fracTellsSpec).preRow enc Tryz.prog Tryz.f3 Rows.fracTellsRow.domain false Rows.fracTellsRow.laid) (((OpenSpec.ofChange Rows.fracTellsSpec).at Fi).post enc Tryz.prog Tryz.f3 false true false false) := by
  obtain ⟨places, hx⟩ := reads os enc
  refine returnsInHanded_of_row (C := Tryz.checked) (s := OpenSpec.ofChange Rows.fracTellsSpec) own started (by kernel_rfl) Tryz.func3
    (witness_row_at (enc := enc) (C := Tryz.checked) false (laidWorld os) #[Value.agg #[Value.int .i64 0, Value.slice none 0 0, Value.int .i64 0, Value.slice none 0 0], Value.agg #[Value.int .i64 0, Value.slice none 0 0, Value.int .i64 0, Value.slice none 0 0], .int .i64 0, .int .i64 0, .string ⟨#[]⟩] rfl (by kernel_rfl) (by kernel_rfl) (by kernel_rfl)
      (OpenSpec.preRow_of_cond 8 hx (by kernel_rfl) (fun k hk => by cases hk) (by kernel_rfl) (laid_met os))) ?_
  intro W base args ds gs before hval hW _ _ _ hL _ _
  exact contract H enc W base args ds gs before hval hW hL
theorem over : Rows.FracTellsSaid :=
  OpenClaim.holds_of_cond 3 Tryz.f3 rfl rfl rfl rfl rfl rfl rfl ⟨rfl, rfl, rfl, rfl, rfl⟩ rfl rfl rfl rfl rfl (by kernel_rfl) Tryz.func3 (by kernel_rfl)
    (of_decide_eq_true (by kernel_rfl)) (by unfold Func.isWrapper; first | (rw [if_pos (by decide +kernel)]; kernel_rfl) | (rw [if_neg (by decide +kernel)]; exact ⟨rfl, rfl⟩))
    (fun os started H enc _ Fi => by rw [OpenClaim.pre_eq_preRow]; exact lifted os started H enc Fi)
theorem plain (f : FuncId) (fn : Func) (hf : Tryz.pinned.checked.prog.funcNamed "consol/consollaw05.FracTells" = some f) (hfn : Tryz.pinned.checked.prog.funcs[f]? = some fn) :
    false = Tryz.pinned.checked.prog.looks [] ∧ ∀ (j : Nat) t, fn.params[j]? = some t → Tryz.pinned.checked.prog.wantsStandIn t = false := by
  obtain rfl : f = 3 := Option.some.inj ((show Tryz.prog.funcNamed "consol/consollaw05.FracTells" = some 3 by kernel_rfl).symm.trans hf) |>.symm
  obtain rfl : fn = Tryz.f3 := (Option.some.inj (Tryz.func3.symm.trans hfn)).symm
  refine ⟨by kernel_rfl, fun j t ht => ?_⟩
  rw [Tryz.params3] at ht
  have hm := Array.mem_of_getElem? ht
  have all : ∀ t ∈ ([26, 26, 3, 3, 9] : List Nat), Tryz.prog.wantsStandIn t = false := by
    intro t h
    have h2 : ([26, 26, 3, 3, 9] : List Nat).all (fun t => !Tryz.prog.wantsStandIn t) = true := by kernel_rfl
    have := List.all_eq_true.1 h2 t h
    simpa using this
  exact all t (by simpa using hm)
end TellsRow
theorem fracTells_proved : Rows.FracTellsCardSaid :=
  Claim7.holds_tied_plain_at .later [] _ _ _ _ TellsRow.over (fun _ h => by cases h) (by kernel_rfl) (fun _ h => by cases h) fracTells_row_tie rfl ⟨rfl, rfl⟩ (by kernel_rfl) rfl TellsRow.plain (by kernel_rfl)
end Go.Proofs.YtipghibmgfhmpaaGreatDoor
end
