/-
  BindVotes: the walk
-/
import Derived.Test.YtionjeodcmnneaaVp
import Derived.Test.YtionjeodcmnneaaLfLitD
set_option linter.unusedVariables false
set_option linter.unusedSimpArgs false
set_option maxHeartbeats 8000000
namespace Lf
open Go
def PN (A : St) : List Nat → List (Nat × (Prop × AV)) → List Nat → Prop
  | [], E, ns => E = [] ∧ ns = []
  | t :: ts, E, ns => PN A ts E ns ∨ ∃ q v E' ns', lk A.env t = some (q, v) ∧ E = (t, (q, v)) :: E' ∧ PN A ts E' ns' ∧
      match v with
      | .addr n _ _ | .slc n | .mp n | .pin n _ _ _ => ns = n :: ns'
      | .itr d n => ns = d :: n :: ns'
      | _ => ns = ns'
def PB (A : St) : List Nat → List (Nat × Blk) → Prop
  | [], bl => bl = []
  | n :: ns, bl => ∃ B bl', lk A.blks n = some B ∧ bl = (n, B) :: bl' ∧ PB A ns bl'
section
variable {A : St} {ts ns : List Nat} {t : Nat} {q : Prop} {E : List (Nat × (Prop × AV))} {bl : List (Nat × Blk)}
theorem PN.nil : PN A [] [] [] := ⟨rfl, rfl⟩
theorem PN.skip (h : PN A ts E ns) : PN A (t :: ts) E ns := .inl h
theorem PN.p {p : PV} (h : lk A.env t = some (q, .pv p)) (hr : PN A ts E ns) : PN A (t :: ts) ((t, (q, .pv p)) :: E) ns := .inr ⟨_, _, _, _, h, rfl, hr, rfl⟩
theorem PN.u {l : List PV} (h : lk A.env t = some (q, .tup l)) (hr : PN A ts E ns) : PN A (t :: ts) ((t, (q, .tup l)) :: E) ns := .inr ⟨_, _, _, _, h, rfl, hr, rfl⟩
theorem PN.a {n i off : Nat} (h : lk A.env t = some (q, .addr n i off)) (hr : PN A ts E ns) : PN A (t :: ts) ((t, (q, .addr n i off)) :: E) (n :: ns) := .inr ⟨_, _, _, _, h, rfl, hr, rfl⟩
theorem PN.s {n : Nat} (h : lk A.env t = some (q, .slc n)) (hr : PN A ts E ns) : PN A (t :: ts) ((t, (q, .slc n)) :: E) (n :: ns) := .inr ⟨_, _, _, _, h, rfl, hr, rfl⟩
theorem PN.m {n : Nat} (h : lk A.env t = some (q, .mp n)) (hr : PN A ts E ns) : PN A (t :: ts) ((t, (q, .mp n)) :: E) (n :: ns) := .inr ⟨_, _, _, _, h, rfl, hr, rfl⟩
theorem PN.k {n b c : Nat} {f : Nat → Value} (h : lk A.env t = some (q, .pin n b c f)) (hr : PN A ts E ns) : PN A (t :: ts) ((t, (q, .pin n b c f)) :: E) (n :: ns) := .inr ⟨_, _, _, _, h, rfl, hr, rfl⟩
theorem PN.i {d n : Nat} (h : lk A.env t = some (q, .itr d n)) (hr : PN A ts E ns) : PN A (t :: ts) ((t, (q, .itr d n)) :: E) (d :: n :: ns) := .inr ⟨_, _, _, _, h, rfl, hr, rfl⟩
def NR (l m : List Cell) : Prop := l = m
theorem NR.nil {l : List Cell} (h : l = []) : NR l [] := h
theorem NR.cons {l r m : List Cell} {c : Cell} (h : l = c :: r) (h' : NR r m) : NR l (c :: m) := by
  have e : r = m := h'
  subst e; exact h
theorem PN.pa {l l' : List Cell} (h : lk A.env t = some (q, .pv (.agg l))) (hl : NR l l') (hr : PN A ts E ns) : PN A (t :: ts) ((t, (q, .pv (.agg l'))) :: E) ns := by
  have e : l = l' := hl
  subst e; exact PN.p h hr
theorem PN.po {c : Cell} (h : lk A.env t = some (q, .pv (.one c))) (hr : PN A ts E ns) : PN A (t :: ts) ((t, (q, .pv (.one c))) :: E) ns := PN.p h hr
theorem PB.nil : PB A [] [] := rfl
theorem PB.one {n T sz : Nat} {B : Blk} {row row' : List Cell} (h : lk A.blks n = some B) (hT : B.E = T) (hs : B.sz = sz) (hrow : B.rows = [row]) (hr' : NR row row') (hr : PB A ns bl) : PB A (n :: ns) ((n, ⟨T, sz, [row']⟩) :: bl) := by
  have e : row = row' := hr'
  subst e
  obtain ⟨a, b, c⟩ := B
  simp only at hT hs hrow
  subst hT; subst hs; subst hrow
  exact ⟨_, _, h, rfl, hr⟩
theorem PB.rw {n T sz : Nat} {B : Blk} {rows : List (List Cell)} (h : lk A.blks n = some B) (hT : B.E = T) (hs : B.sz = sz) (hrow : B.rows = rows) (hr : PB A ns bl) : PB A (n :: ns) ((n, ⟨T, sz, rows⟩) :: bl) := by
  obtain ⟨a, b, c⟩ := B
  simp only at hT hs hrow
  subst hT; subst hs; subst hrow
  exact ⟨_, _, h, rfl, hr⟩
theorem PB.cons {n T sz : Nat} {rows : List (List Cell)} (h : lk A.blks n = some ⟨T, sz, rows⟩) (hr : PB A ns bl) : PB A (n :: ns) ((n, ⟨T, sz, rows⟩) :: bl) := ⟨_, _, h, rfl, hr⟩
end
theorem PB.get {A : St} : ∀ {ns : List Nat} {bl : List (Nat × Blk)}, PB A ns bl → ∀ n ∈ ns, lk bl n = lk A.blks n
  | [], _, _, n, hn => by cases hn
  | m :: ns, _, ⟨B, bl', h1, rfl, h2⟩, n, hn => by
    rw [lk_cons]
    split
    · rename_i e; subst e; exact h1.symm
    · rename_i e
      rcases List.mem_cons.1 hn with rfl | hn
      · exact absurd rfl e
      · exact PB.get h2 n hn
theorem PB.sub {A : St} : ∀ {ns : List Nat} {bl : List (Nat × Blk)}, PB A ns bl → SubB A bl
  | [], _, h => by
    have e : _ = [] := h
    rw [e]; trivial
  | m :: ns, _, ⟨B, bl', h1, rfl, h2⟩ => ⟨h1, PB.sub h2⟩
theorem PN.sub {A : St} {bl : List (Nat × Blk)} : ∀ {ts : List Nat} {E : List (Nat × (Prop × AV))} {ns : List Nat}, PN A ts E ns → (∀ n ∈ ns, lk bl n = lk A.blks n) → SubE A bl E
  | [], _, _, h, _ => by
    obtain ⟨rfl, _⟩ := (h : _ = [] ∧ _ = [])
    trivial
  | t :: ts, E, ns, h, hn => by
    rcases (h : PN A ts E ns ∨ _) with h | ⟨q, v, E', ns', h1, rfl, h2, h3⟩
    · exact PN.sub h hn
    · refine ⟨⟨h1, ?_⟩, PN.sub h2 fun n hm => hn n ?_⟩
      · cases v with
        | pv p => trivial
        | tup l => trivial
        | top => trivial
        | addr n i off => exact hn n (by rw [show ns = n :: ns' from h3]; simp)
        | slc n => exact hn n (by rw [show ns = n :: ns' from h3]; simp)
        | mp n => exact hn n (by rw [show ns = n :: ns' from h3]; simp)
        | pin n b c f => exact hn n (by rw [show ns = n :: ns' from h3]; simp)
        | itr d n => exact ⟨hn d (by rw [show ns = d :: n :: ns' from h3]; simp), hn n (by rw [show ns = d :: n :: ns' from h3]; simp)⟩
      · cases v with
        | pv p => rw [show ns = ns' from h3]; exact hm
        | tup l => rw [show ns = ns' from h3]; exact hm
        | top => rw [show ns = ns' from h3]; exact hm
        | addr m i off => rw [show ns = m :: ns' from h3]; exact List.mem_cons_of_mem _ hm
        | slc m => rw [show ns = m :: ns' from h3]; exact List.mem_cons_of_mem _ hm
        | mp m => rw [show ns = m :: ns' from h3]; exact List.mem_cons_of_mem _ hm
        | pin m b c f => rw [show ns = m :: ns' from h3]; exact List.mem_cons_of_mem _ hm
        | itr d m => rw [show ns = d :: m :: ns' from h3]; exact List.mem_cons_of_mem _ (List.mem_cons_of_mem _ hm)
theorem W.purgeR {P : Program} {G : Ghost} {Q : Exit → St → Prop} {n id : Nat} {env : List (Nat × (Prop × AV))} {bl0 : List (Nat × Blk)} {ops : Array Oper} {late : Bool} {y : Code} {ts ns : List Nat} {E : List (Nat × (Prop × AV))} {bl : List (Nat × Blk)} (tab : List (Nat × List Nat)) (ht : lk tab id = some ts)
    (hp : PN (St.mk n env bl0) ts E ns) (hb : PB (St.mk n env bl0) ns bl) (hw : W P G (.region id ops late) (Then (W P G y Q) Q) (St.mk n E bl)) : W P G (.seq (.region id ops late) y) Q (St.mk n env bl0) :=
  W.seq (W.weaken (Le.mk (B := St.mk n E bl) rfl (PN.sub hp (PB.get hb)) (PB.sub hb)) hw)
theorem W.cutR {P : Program} {G : Ghost} {A : St} {Q : Exit → St → Prop} {ops : Array Oper} {late : Bool} {y : Code} (id : Nat) (n : Nat) (keep : List Nat) (f : List (Nat × (Prop × AV))) (bl : List (Nat × Blk)) {E : List (Nat × (Prop × AV))} (hp : Pick A keep E)
    (hx : W P G (.region id ops late) (Then (fun A' => Le A' (mkSt n f E bl)) Q) A) (hy : W P G y Q (mkSt n f E bl)) : W P G (.seq (.region id ops late) y) Q A := by
  refine W.cutP (σ := Unit) n keep (fun _ => True) (fun _ => f) (fun _ => bl) hp (W.mono hx fun e A' h => ?_) (fun _ _ => hy)
  cases e with
  | normal => exact ⟨(), trivial, h⟩
  | exit id => exact h
  | goto id => exact h
  | ret => exact h
  | panic c => exact h
  | outgrown => exact h
attribute [irreducible] PN PB NR
end Lf
namespace Go.Proofs.Ytionjeodcmnneaa
open Lf Go
attribute [local irreducible] PureOp EffOp Ev RG W Then InBlock Lf.Fin nth App InitE Pick SubE SubF SubG EvL EvD EvP EvR ResL Lf.Lex SubR SubBR RA RAll EvC FinO FinM ResM FinB ResD

theorem map_vo3 (vs : List Vo) (s d : Int) (b : Bool) : vs.map encVo ++ [[.int .i64 s, .int .i64 d, .bool b]] = (vs ++ [(⟨s, d, b⟩ : Vo)]).map encVo := by
  rw [List.map_append]; rfl
theorem mem1 {α : Type} {x y : α} (h : x ∈ [y]) : x = y := List.mem_singleton.1 h
theorem few_all1 {o f : Ind} (h : fewAll [o] [f] 1 = true) : (o.lets.length ≤ 1000 ∧ o.covs.length ≤ 1000) ∧ (f.lets.length ≤ 1000 ∧ f.covs.length ≤ 1000) := by
  simp only [fewAll, Bool.and_eq_true, List.all_cons, List.all_nil, Bool.and_true] at h
  exact ⟨few_sm h.1.2, few_sm h.2⟩
structure VG (o f : Ind) (us : List Int) (vs : List Vo) (s d : Int) : Prop where
  few : fewAll [o] [f] 1 = true
  nu : us.length ≤ 12
  nv : vs.length ≤ 20
  s0 : 0 ≤ s
  s1 : s < us.length
  d0 : 0 ≤ d
  d1 : d ≤ 200000
set_option maxRecDepth 20000 in
theorem votes_ok (o f : Ind) (us : List Int) (vs : List Vo) (s d : Int) (ho : OkN o) (hf : OkN f) : ACalls Try.prog 7 [aN o, aN f, slI us, slVo vs, cI s, cI d] (.pv (cB true)) := by
  have h0 := small_ok
  have h1 := fewAll_ok [o] [f] 1 (fun x hx => by rw [mem1 hx]; exact ho) (fun x hx => by rw [mem1 hx]; exact hf) (by simp) (by simp)
  by_cases hg : VG o f us vs s d
  case neg =>
    cases hfw : fewAll [o] [f] 1 with
    | false =>
      rw [hfw] at h1
      refine ACalls.of_W (qs := [cB true]) [12] 272 Try.func7 (by kernel_rfl) rfl rfl rfl fun G => ?_
      refine W.initA (hw := ?_)
      repeat' (first
        | ((first | apply U_ | (apply Ug_; exact rfl; exact rfl) | (apply Ugq_; exact rfl; exact rfl) | apply Lex.u | (apply Lex.g; exact rfl; exact rfl) | (apply Lex.gq; exact rfl; exact rfl)); (first
    | (apply Q_litD TYok (n := _ + 1); (repeat (first | exact EvR.nil | apply EvR.cons Ev.auto)); exact rfl; exact rfl; exact rfl; exact rfl; exact rfl; exact rfl)
    | exact QX.Move TYok
    | exact QX.Asg TYok
    | exact QX.Fld TYok
    | exact QX.Ld TYok
    | exact QX.Bin TYok
    | exact QX.Pick TYok
    | exact QX.Un TYok
    | exact QX.Len TYok
    | exact QX.Idx TYok
    | exact QX.Ext TYok
    | exact QX.Build TYok
    | (apply Q_calld (h0); exact EvD.auto)
    | (apply Q_calld (h1); exact EvD.auto)); exact rfl)
        | refine SX.Lit TYok (h := ?_)
        | refine SX.App TYok (h := ?_)
        | refine SX.Box TYok (h := ?_)
        | apply RG.nil
        | apply Lex.nil
        | apply Then.n
        | apply Then.r
        | apply Then.x
        | apply InBlock.n
        | apply InBlock.r
        | apply InBlock.hit
        | (apply InBlock.miss; exact rfl)
        | apply W.seq
        | apply W.region
        | apply W.block
        | apply W.skip
        | apply W.ret
        | apply W.exit
        | (apply S_isnil TYok; exact rfl; exact rfl; exact rfl; exact Ev.auto; intro bn hnil)
        | (apply RG.gT; exact rfl; exact rfl; (first | assumption | decide))
        | (apply RG.gF; exact rfl; exact rfl; (first | assumption | decide | (rw [ne_eq, Bool.not_eq_true]; assumption) | (rw [ne_eq, Bool.not_eq_false]; assumption)); exact rfl)
        | (apply W.draw2 (id := 28) [0, 1, 3, 7, 15, 3, 35, 99, 255, 511, 1023, 2047, 4095, 8191, 16383, 32767, 65535, 131071, 262143, 524287, 1048575, 2097151, 4194303, 4194303, 16777215, 33554431, 67108863, 134217727, 268435455, 536870911, 1073741823, 268435455, 2415919103, 6710886399, 17179869183, 34359738367, 68719476735, 137438953471] [[13], [235], [27, 236], [237, 236], [238, 236], [31, 236], [240, 236], [241, 236], [239, 242, 236], [236, 243], [244], [27, 245], [246, 245], [247, 245], [248, 245], [249, 245], [29, 250], [251, 250], [252, 250], [250, 253, 245], [245, 254], [255], [2, 256], [4, 256], [257, 258, 256], [259, 256], [260, 256], [261, 256], [27, 262], [263, 262], [264, 262], [29, 262], [266, 262], [267, 262], [265, 268, 262], [262, 269, 256], [256, 270], [271]] 38 [(235, 8192), (236, 55213970774324510299478046898216203619608871777363092441300193790394368), (237, 110427941548649020598956093796432407239217743554726184882600387715006464), (238, 331283824645947061796868281389297221717653230664178554647801162742366208), (239, 552139707743245102994780468982162036196088717773630924413001937903943680), (240, 110427941548649020598956093796432407239217743554726184882600389728272384), (241, 1877275006327033350182253594539350923066701640430345143004206588873408512), (242, 3644122071105417679765551095282269438894185537305964101125812790166028288), (243, 8061239733051378503723794847139565728462895279495011496429828293397577728), (244, 14245204459775723657265336099739780533859088918559677849855449997921746944), (245, 28269553036454149273332760011886696253239742350009903329945699220681916416), (246, 56539106072908298546665520023773392506479484700019806659891398441498050560), (247, 169617318218724895639996560071320177519438454100059419979674195324091498496), (248, 282695530364541492733327600118866962532397423500099033299456992206819164160), (249, 508851954656174686919989680213960532558315362300178259939022585972274495488), (250, 961164803239441075293313840404147672610151239900336713218153773503185158144), (251, 1809251394333065553493296640760748560207343510400633813116524750124179521536), (252, 5427754182999196660479889922282245680622030531201901439349574250370927951872), (253, 9046256971665327767466483203803742801036717552003169065582623750618213253120), (254, 16339801655070498279986335286870510434372571078305724124708614149554147688448), (255, 29004561415401957154439411772195750355823975651110160816524287400419646242816), (256, 57896044618658097711785492504343953926634992332820282019728792003956564819968), (257, 115792089237316195423570985008687907853269984665640564039457584007913129639940), (258, 115792089237316195423570985008687907853269984665640564039457584007913129639952), (259, 810544624661213367964996895060815354972889892659483948276203088055391907479552), (260, 1042128803135845758812138865078191170679429861990765076355118256071218166759424), (261, 1968465517034375322200706745147694433505589739315889588670778928134523203878912), (262, 3821138944831434448977842505286700959157909493966138613302100272261133278117888), (263, 7410693711188236507108543040556026102609279018600996098525285376506440431173632), (264, 22232081133564709521325629121668078307827837055802988295575856129519320890867712), (265, 37053468555941182535542715202780130513046395093004980492626426882532201484779520), (266, 7410693711188236507108543040556026102609279018600996098525285376506440833826816), (267, 125981793090200020620845231689452443744357743316216933674929851400609485048250368), (268, 244552892469211804734581920338348861386106207613832871251334417424712529799544832), (269, 540980640916741265018923641960589905490477368357872715192345832484970141677780992), (270, 956095280832519825612425623216736055144450263384194137273801271153338711436951552), (271, 1897253382153425862015210589367351370175828698746520641786512513969656629150351360), (12, 3794275180128377091639574036764685364535950857523710002444946112771297432041422848)] mixed (by kernel_rfl) rfl rfl)
        | (refine W.condA (ht := fun hb => ?_) (hf := fun hb => ?_) <;> (try simp at hb) <;> (try (exfalso; omega))))
      exact Fin.ret ResL.auto
    | true =>
      have hg' : ¬ (us.length ≤ 12 ∧ vs.length ≤ 20 ∧ 0 ≤ s ∧ s < us.length ∧ 0 ≤ d ∧ d ≤ 200000) := fun ⟨b, c, d', e, f', g⟩ => hg ⟨hfw, b, c, d', e, f', g⟩
      rw [hfw] at h1
      refine ACalls.of_W (qs := [cB true]) [12] 272 Try.func7 (by kernel_rfl) rfl rfl rfl fun G => ?_
      refine W.initA (hw := ?_)
      repeat' (first
        | ((first | apply U_ | (apply Ug_; exact rfl; exact rfl) | (apply Ugq_; exact rfl; exact rfl) | apply Lex.u | (apply Lex.g; exact rfl; exact rfl) | (apply Lex.gq; exact rfl; exact rfl)); (first
    | (apply Q_litD TYok (n := _ + 1); (repeat (first | exact EvR.nil | apply EvR.cons Ev.auto)); exact rfl; exact rfl; exact rfl; exact rfl; exact rfl; exact rfl)
    | exact QX.Move TYok
    | exact QX.Asg TYok
    | exact QX.Fld TYok
    | exact QX.Ld TYok
    | exact QX.Bin TYok
    | exact QX.Pick TYok
    | exact QX.Un TYok
    | exact QX.Len TYok
    | exact QX.Idx TYok
    | exact QX.Ext TYok
    | exact QX.Build TYok
    | (apply Q_calld (h0); exact EvD.auto)
    | (apply Q_calld (h1); exact EvD.auto)); exact rfl)
        | refine SX.Lit TYok (h := ?_)
        | refine SX.App TYok (h := ?_)
        | refine SX.Box TYok (h := ?_)
        | apply RG.nil
        | apply Lex.nil
        | apply Then.n
        | apply Then.r
        | apply Then.x
        | apply InBlock.n
        | apply InBlock.r
        | apply InBlock.hit
        | (apply InBlock.miss; exact rfl)
        | apply W.seq
        | apply W.region
        | apply W.block
        | apply W.skip
        | apply W.ret
        | apply W.exit
        | (apply S_isnil TYok; exact rfl; exact rfl; exact rfl; exact Ev.auto; intro bn hnil)
        | (apply RG.gT; exact rfl; exact rfl; (first | assumption | decide))
        | (apply RG.gF; exact rfl; exact rfl; (first | assumption | decide | (rw [ne_eq, Bool.not_eq_true]; assumption) | (rw [ne_eq, Bool.not_eq_false]; assumption)); exact rfl)
        | (apply W.draw2 (id := 28) [0, 1, 3, 7, 15, 3, 35, 99, 255, 511, 1023, 2047, 4095, 8191, 16383, 32767, 65535, 131071, 262143, 524287, 1048575, 2097151, 4194303, 4194303, 16777215, 33554431, 67108863, 134217727, 268435455, 536870911, 1073741823, 268435455, 2415919103, 6710886399, 17179869183, 34359738367, 68719476735, 137438953471] [[13], [235], [27, 236], [237, 236], [238, 236], [31, 236], [240, 236], [241, 236], [239, 242, 236], [236, 243], [244], [27, 245], [246, 245], [247, 245], [248, 245], [249, 245], [29, 250], [251, 250], [252, 250], [250, 253, 245], [245, 254], [255], [2, 256], [4, 256], [257, 258, 256], [259, 256], [260, 256], [261, 256], [27, 262], [263, 262], [264, 262], [29, 262], [266, 262], [267, 262], [265, 268, 262], [262, 269, 256], [256, 270], [271]] 38 [(235, 8192), (236, 55213970774324510299478046898216203619608871777363092441300193790394368), (237, 110427941548649020598956093796432407239217743554726184882600387715006464), (238, 331283824645947061796868281389297221717653230664178554647801162742366208), (239, 552139707743245102994780468982162036196088717773630924413001937903943680), (240, 110427941548649020598956093796432407239217743554726184882600389728272384), (241, 1877275006327033350182253594539350923066701640430345143004206588873408512), (242, 3644122071105417679765551095282269438894185537305964101125812790166028288), (243, 8061239733051378503723794847139565728462895279495011496429828293397577728), (244, 14245204459775723657265336099739780533859088918559677849855449997921746944), (245, 28269553036454149273332760011886696253239742350009903329945699220681916416), (246, 56539106072908298546665520023773392506479484700019806659891398441498050560), (247, 169617318218724895639996560071320177519438454100059419979674195324091498496), (248, 282695530364541492733327600118866962532397423500099033299456992206819164160), (249, 508851954656174686919989680213960532558315362300178259939022585972274495488), (250, 961164803239441075293313840404147672610151239900336713218153773503185158144), (251, 1809251394333065553493296640760748560207343510400633813116524750124179521536), (252, 5427754182999196660479889922282245680622030531201901439349574250370927951872), (253, 9046256971665327767466483203803742801036717552003169065582623750618213253120), (254, 16339801655070498279986335286870510434372571078305724124708614149554147688448), (255, 29004561415401957154439411772195750355823975651110160816524287400419646242816), (256, 57896044618658097711785492504343953926634992332820282019728792003956564819968), (257, 115792089237316195423570985008687907853269984665640564039457584007913129639940), (258, 115792089237316195423570985008687907853269984665640564039457584007913129639952), (259, 810544624661213367964996895060815354972889892659483948276203088055391907479552), (260, 1042128803135845758812138865078191170679429861990765076355118256071218166759424), (261, 1968465517034375322200706745147694433505589739315889588670778928134523203878912), (262, 3821138944831434448977842505286700959157909493966138613302100272261133278117888), (263, 7410693711188236507108543040556026102609279018600996098525285376506440431173632), (264, 22232081133564709521325629121668078307827837055802988295575856129519320890867712), (265, 37053468555941182535542715202780130513046395093004980492626426882532201484779520), (266, 7410693711188236507108543040556026102609279018600996098525285376506440833826816), (267, 125981793090200020620845231689452443744357743316216933674929851400609485048250368), (268, 244552892469211804734581920338348861386106207613832871251334417424712529799544832), (269, 540980640916741265018923641960589905490477368357872715192345832484970141677780992), (270, 956095280832519825612425623216736055144450263384194137273801271153338711436951552), (271, 1897253382153425862015210589367351370175828698746520641786512513969656629150351360), (12, 3794275180128377091639574036764685364535950857523710002444946112771297432041422848)] mixed (by kernel_rfl) rfl rfl)
        | (refine W.condA (ht := fun hb => ?_) (hf := fun hb => ?_) <;> (try simp at hb) <;> (try (exfalso; omega))))
      exact Fin.ret ResL.auto
  obtain ⟨g1, g2, g3, g4, g5, g6, g7⟩ := hg
  rw [g1] at h1
  have few := few_all1 g1
  obtain ⟨S, rfl⟩ : ∃ S : Nat, s = S := ⟨s.toNat, by omega⟩
  have hS : S < us.length := by omega
  have hld : ∀ h : 0 < vs.length, lastDay 0 vs = (nth vs (vs.length - 1)).day := lastDay_last vs 0
  have hl0 : vs.length = 0 → lastDay 0 vs = 0 := fun h => by rw [List.length_eq_zero_iff.1 h]; rfl
  by_cases hday : lastDay 0 vs ≤ d
  case neg =>
    have hpos : 0 < vs.length := by
      rcases Nat.eq_zero_or_pos vs.length with h | h
      · rw [hl0 h] at hday; omega
      · exact h
    rw [hld hpos] at hday
    have hne : vs ≠ [] := fun e => by rw [e] at hpos; simp at hpos
    refine ACalls.of_W (qs := [cB true]) [12] 272 Try.func7 (by kernel_rfl) rfl rfl rfl fun G => ?_
    refine W.initA (hw := ?_)
    repeat' (first
      | (exfalso; exact absurd ‹vs = []› hne)
      | ((first | apply U_ | (apply Ug_; exact rfl; exact rfl) | (apply Ugq_; exact rfl; exact rfl) | apply Lex.u | (apply Lex.g; exact rfl; exact rfl) | (apply Lex.gq; exact rfl; exact rfl)); (first
    | (apply Q_litD TYok (n := _ + 1); (repeat (first | exact EvR.nil | apply EvR.cons Ev.auto)); exact rfl; exact rfl; exact rfl; exact rfl; exact rfl; exact rfl)
    | exact QX.Move TYok
    | exact QX.Asg TYok
    | exact QX.Fld TYok
    | exact QX.Ld TYok
    | exact QX.Bin TYok
    | exact QX.Pick TYok
    | exact QX.Un TYok
    | exact QX.Len TYok
    | exact QX.Idx TYok
    | exact QX.Ext TYok
    | exact QX.Build TYok
    | (apply Q_calld (h0); exact EvD.auto)
    | (apply Q_calld (h1); exact EvD.auto)); exact rfl)
      | refine SX.Lit TYok (h := ?_)
      | refine SX.App TYok (h := ?_)
      | refine SX.Box TYok (h := ?_)
      | apply RG.nil
      | apply Lex.nil
      | apply Then.n
      | apply Then.r
      | apply Then.x
      | apply InBlock.n
      | apply InBlock.r
      | apply InBlock.hit
      | (apply InBlock.miss; exact rfl)
      | apply W.seq
      | apply W.region
      | apply W.block
      | apply W.skip
      | apply W.ret
      | apply W.exit
      | (apply S_isnil TYok; exact rfl; exact rfl; exact rfl; exact Ev.auto; intro bn hnil)
      | (apply RG.gT; exact rfl; exact rfl; (first | assumption | decide))
      | (apply RG.gF; exact rfl; exact rfl; (first | assumption | decide | (rw [ne_eq, Bool.not_eq_true]; assumption) | (rw [ne_eq, Bool.not_eq_false]; assumption)); exact rfl)
      | (apply W.draw2 (id := 28) [0, 1, 3, 7, 15, 3, 35, 99, 255, 511, 1023, 2047, 4095, 8191, 16383, 32767, 65535, 131071, 262143, 524287, 1048575, 2097151, 4194303, 4194303, 16777215, 33554431, 67108863, 134217727, 268435455, 536870911, 1073741823, 268435455, 2415919103, 6710886399, 17179869183, 34359738367, 68719476735, 137438953471] [[13], [235], [27, 236], [237, 236], [238, 236], [31, 236], [240, 236], [241, 236], [239, 242, 236], [236, 243], [244], [27, 245], [246, 245], [247, 245], [248, 245], [249, 245], [29, 250], [251, 250], [252, 250], [250, 253, 245], [245, 254], [255], [2, 256], [4, 256], [257, 258, 256], [259, 256], [260, 256], [261, 256], [27, 262], [263, 262], [264, 262], [29, 262], [266, 262], [267, 262], [265, 268, 262], [262, 269, 256], [256, 270], [271]] 38 [(235, 8192), (236, 55213970774324510299478046898216203619608871777363092441300193790394368), (237, 110427941548649020598956093796432407239217743554726184882600387715006464), (238, 331283824645947061796868281389297221717653230664178554647801162742366208), (239, 552139707743245102994780468982162036196088717773630924413001937903943680), (240, 110427941548649020598956093796432407239217743554726184882600389728272384), (241, 1877275006327033350182253594539350923066701640430345143004206588873408512), (242, 3644122071105417679765551095282269438894185537305964101125812790166028288), (243, 8061239733051378503723794847139565728462895279495011496429828293397577728), (244, 14245204459775723657265336099739780533859088918559677849855449997921746944), (245, 28269553036454149273332760011886696253239742350009903329945699220681916416), (246, 56539106072908298546665520023773392506479484700019806659891398441498050560), (247, 169617318218724895639996560071320177519438454100059419979674195324091498496), (248, 282695530364541492733327600118866962532397423500099033299456992206819164160), (249, 508851954656174686919989680213960532558315362300178259939022585972274495488), (250, 961164803239441075293313840404147672610151239900336713218153773503185158144), (251, 1809251394333065553493296640760748560207343510400633813116524750124179521536), (252, 5427754182999196660479889922282245680622030531201901439349574250370927951872), (253, 9046256971665327767466483203803742801036717552003169065582623750618213253120), (254, 16339801655070498279986335286870510434372571078305724124708614149554147688448), (255, 29004561415401957154439411772195750355823975651110160816524287400419646242816), (256, 57896044618658097711785492504343953926634992332820282019728792003956564819968), (257, 115792089237316195423570985008687907853269984665640564039457584007913129639940), (258, 115792089237316195423570985008687907853269984665640564039457584007913129639952), (259, 810544624661213367964996895060815354972889892659483948276203088055391907479552), (260, 1042128803135845758812138865078191170679429861990765076355118256071218166759424), (261, 1968465517034375322200706745147694433505589739315889588670778928134523203878912), (262, 3821138944831434448977842505286700959157909493966138613302100272261133278117888), (263, 7410693711188236507108543040556026102609279018600996098525285376506440431173632), (264, 22232081133564709521325629121668078307827837055802988295575856129519320890867712), (265, 37053468555941182535542715202780130513046395093004980492626426882532201484779520), (266, 7410693711188236507108543040556026102609279018600996098525285376506440833826816), (267, 125981793090200020620845231689452443744357743316216933674929851400609485048250368), (268, 244552892469211804734581920338348861386106207613832871251334417424712529799544832), (269, 540980640916741265018923641960589905490477368357872715192345832484970141677780992), (270, 956095280832519825612425623216736055144450263384194137273801271153338711436951552), (271, 1897253382153425862015210589367351370175828698746520641786512513969656629150351360), (12, 3794275180128377091639574036764685364535950857523710002444946112771297432041422848)] mixed (by kernel_rfl) rfl rfl)
      | (refine W.condA (ht := fun hb => ?_) (hf := fun hb => ?_) <;> (try simp at hb) <;> (try (exfalso; omega))))
    exact Fin.ret ResL.auto
  have hdy : 0 < vs.length → (nth vs (vs.length - 1)).day ≤ d := fun h => by rw [← hld h]; exact hday
  have t1 := tally_ok us (vs ++ [⟨S, d, false⟩]) d (by omega) (by simp; omega)
  have t2 := tally_ok us ((vs ++ [⟨S, d, false⟩]) ++ [⟨S, d, true⟩]) d (by omega) (by simp; omega)
  have t3 := tally_ok us (((vs ++ [⟨S, d, false⟩]) ++ [⟨S, d, true⟩]) ++ [⟨S, d, false⟩]) d (by omega) (by simp; omega)
  by_cases hr : rightV us vs = true
  case neg =>
    obtain ⟨e1, e2, e3⟩ := three_no g4 g5 g7 hday g3 hr
    rw [e1] at t1
    rw [e2] at t2
    rw [e3] at t3
    obtain ⟨A1, hA1⟩ : ∃ A, vs.map encVo ++ [[.int .i64 S, .int .i64 d, .bool false]] = A := ⟨_, rfl⟩
    obtain ⟨A2, hA2⟩ : ∃ A, A1 ++ [[.int .i64 S, .int .i64 d, .bool true]] = A := ⟨_, rfl⟩
    obtain ⟨A3, hA3⟩ : ∃ A, A2 ++ [[.int .i64 S, .int .i64 d, .bool false]] = A := ⟨_, rfl⟩
    have lA1 : A1.length ≤ 21 := by rw [← hA1]; simp; omega
    have lA2 : A2.length ≤ 22 := by rw [← hA2]; simp; omega
    replace t1 : ACalls Try.prog 21 [slI us, .one (.sl A1), cI d] (.tup [cI 0, cI 0, cI 1]) := by rw [← hA1, map_vo3]; exact t1
    replace t2 : ACalls Try.prog 21 [slI us, .one (.sl A2), cI d] (.tup [cI 0, cI 0, cI 1]) := by rw [← hA2, ← hA1, map_vo3, map_vo3]; exact t2
    replace t3 : ACalls Try.prog 21 [slI us, .one (.sl A3), cI d] (.tup [cI 0, cI 0, cI 1]) := by rw [← hA3, ← hA2, ← hA1, map_vo3, map_vo3, map_vo3]; exact t3
    refine ACalls.of_W (qs := [cB true]) [12] 272 Try.func7 (by kernel_rfl) rfl rfl rfl fun G => ?_
    refine W.initA (hw := ?_)
    repeat' (first
      | (refine W.purgeR [(4, [2, 3, 4, 5, 6, 7, 13]), (5, [2, 3, 4, 5, 6, 7, 13, 14]), (9, [2, 3, 4, 5, 6, 7, 13]), (10, [2, 4, 5, 6, 7, 13, 15]), (11, [2, 4, 5, 6, 7, 13, 15, 16]), (12, [2, 4, 5, 6, 7, 13, 15, 16, 17]), (13, [2, 4, 5, 6, 7, 13, 16, 17, 18, 19, 20]), (14, [2, 4, 5, 6, 7, 13, 17, 18, 19, 20, 21, 22, 23]), (15, [2, 4, 6, 7, 13, 18, 19, 20, 21, 22, 23, 24, 25, 26]), (17, [2, 4, 6, 7, 13, 18, 19, 21, 22, 24, 25]), (19, [2, 4, 6, 7, 13, 18, 19, 21, 24]), (20, [2, 4, 6, 7, 13, 19, 21, 24, 27, 28]), (21, [2, 4, 6, 7, 13, 19, 24, 27, 28, 29, 30]), (22, [2, 4, 13, 27, 28, 29, 30, 31, 32]), (24, [2, 4, 13, 27, 28, 29, 31]), (25, [13]), (26, [2, 4, 13, 27, 29, 31]), (27, []), (28, [2, 4, 13, 27, 29, 31])] rfl (by repeat (first | exact PN.nil | apply PN.po rfl | (apply PN.pa; exact rfl; (repeat (first | (apply NR.cons; exact rfl) | exact NR.nil rfl))) | apply PN.a rfl | apply PN.s rfl | apply PN.u rfl | apply PN.m rfl | apply PN.k rfl | apply PN.i rfl | apply PN.skip)) (by repeat (first | exact PB.nil | (apply PB.one; exact rfl; (focus (first | (dsimp only; done) | (dsimp only; exact rfl) | exact rfl)); (focus (first | (dsimp only; done) | (dsimp only; exact rfl) | exact rfl)); exact rfl; (repeat (first | (apply NR.cons; exact rfl) | exact NR.nil rfl)))  | (apply PB.rw; exact rfl; (focus (first | (dsimp only; done) | (dsimp only; exact rfl) | exact rfl)); (focus (first | (dsimp only; done) | (dsimp only; exact rfl) | exact rfl)); exact hA1) | (apply PB.rw; exact rfl; (focus (first | (dsimp only; done) | (dsimp only; exact rfl) | exact rfl)); (focus (first | (dsimp only; done) | (dsimp only; exact rfl) | exact rfl)); exact hA2) | (apply PB.rw; exact rfl; (focus (first | (dsimp only; done) | (dsimp only; exact rfl) | exact rfl)); (focus (first | (dsimp only; done) | (dsimp only; exact rfl) | exact rfl)); exact hA3) | apply PB.cons rfl)) ?_)
      | ((first | apply U_ | (apply Ug_; exact rfl; exact rfl) | (apply Ugq_; exact rfl; exact rfl) | apply Lex.u | (apply Lex.g; exact rfl; exact rfl) | (apply Lex.gq; exact rfl; exact rfl)); (first
    | (apply Q_litD TYok (n := _ + 1); (repeat (first | exact EvR.nil | apply EvR.cons Ev.auto)); exact rfl; exact rfl; exact rfl; exact rfl; exact rfl; exact rfl)
    | exact QX.Move TYok
    | exact QX.Asg TYok
    | exact QX.Fld TYok
    | exact QX.Ld TYok
    | exact QX.Bin TYok
    | exact QX.Pick TYok
    | exact QX.Un TYok
    | exact QX.Len TYok
    | exact QX.Idx TYok
    | exact QX.Ext TYok
    | exact QX.Build TYok
    | (apply Q_calld (h0); exact EvD.auto)
    | (apply Q_calld (h1); exact EvD.auto)
    | (apply Q_call (t1); exact EvL.auto; exact rfl)
    | (apply Q_call (t2); exact EvL.auto; exact rfl)
    | (apply Q_call (t3); exact EvL.auto; exact rfl)); exact rfl)
      | refine SX.Lit TYok (h := ?_)
      | refine SX.App TYok (h := ?_)
      | refine SX.Box TYok (h := ?_)
      | (apply S_appendd TYok; exact Ev.auto; exact Ev.auto; exact rfl; exact rfl; exact rfl; exact rfl; exact rfl; exact rfl; exact rfl; exact rfl; (intro r hr; rw [List.mem_singleton.1 hr]; exact rfl); (constructor <;> simp <;> omega); exact rfl)
      | apply RG.nil
      | apply Lex.nil
      | apply Then.n
      | apply Then.r
      | apply Then.x
      | apply InBlock.n
      | apply InBlock.r
      | apply InBlock.hit
      | (apply InBlock.miss; exact rfl)
      | apply W.seq
      | apply W.region
      | apply W.block
      | apply W.skip
      | apply W.ret
      | apply W.exit
      | (apply S_isnil TYok; exact rfl; exact rfl; exact rfl; exact Ev.auto; intro bn hnil)
      | (apply RG.gT; exact rfl; exact rfl; (first | assumption | decide))
      | (apply RG.gF; exact rfl; exact rfl; (first | assumption | decide | (rw [ne_eq, Bool.not_eq_true]; assumption) | (rw [ne_eq, Bool.not_eq_false]; assumption)); exact rfl)
      | (apply W.draw2 (id := 28) [0, 1, 3, 7, 15, 3, 35, 99, 255, 511, 1023, 2047, 4095, 8191, 16383, 32767, 65535, 131071, 262143, 524287, 1048575, 2097151, 4194303, 4194303, 16777215, 33554431, 67108863, 134217727, 268435455, 536870911, 1073741823, 268435455, 2415919103, 6710886399, 17179869183, 34359738367, 68719476735, 137438953471] [[13], [235], [27, 236], [237, 236], [238, 236], [31, 236], [240, 236], [241, 236], [239, 242, 236], [236, 243], [244], [27, 245], [246, 245], [247, 245], [248, 245], [249, 245], [29, 250], [251, 250], [252, 250], [250, 253, 245], [245, 254], [255], [2, 256], [4, 256], [257, 258, 256], [259, 256], [260, 256], [261, 256], [27, 262], [263, 262], [264, 262], [29, 262], [266, 262], [267, 262], [265, 268, 262], [262, 269, 256], [256, 270], [271]] 38 [(235, 8192), (236, 55213970774324510299478046898216203619608871777363092441300193790394368), (237, 110427941548649020598956093796432407239217743554726184882600387715006464), (238, 331283824645947061796868281389297221717653230664178554647801162742366208), (239, 552139707743245102994780468982162036196088717773630924413001937903943680), (240, 110427941548649020598956093796432407239217743554726184882600389728272384), (241, 1877275006327033350182253594539350923066701640430345143004206588873408512), (242, 3644122071105417679765551095282269438894185537305964101125812790166028288), (243, 8061239733051378503723794847139565728462895279495011496429828293397577728), (244, 14245204459775723657265336099739780533859088918559677849855449997921746944), (245, 28269553036454149273332760011886696253239742350009903329945699220681916416), (246, 56539106072908298546665520023773392506479484700019806659891398441498050560), (247, 169617318218724895639996560071320177519438454100059419979674195324091498496), (248, 282695530364541492733327600118866962532397423500099033299456992206819164160), (249, 508851954656174686919989680213960532558315362300178259939022585972274495488), (250, 961164803239441075293313840404147672610151239900336713218153773503185158144), (251, 1809251394333065553493296640760748560207343510400633813116524750124179521536), (252, 5427754182999196660479889922282245680622030531201901439349574250370927951872), (253, 9046256971665327767466483203803742801036717552003169065582623750618213253120), (254, 16339801655070498279986335286870510434372571078305724124708614149554147688448), (255, 29004561415401957154439411772195750355823975651110160816524287400419646242816), (256, 57896044618658097711785492504343953926634992332820282019728792003956564819968), (257, 115792089237316195423570985008687907853269984665640564039457584007913129639940), (258, 115792089237316195423570985008687907853269984665640564039457584007913129639952), (259, 810544624661213367964996895060815354972889892659483948276203088055391907479552), (260, 1042128803135845758812138865078191170679429861990765076355118256071218166759424), (261, 1968465517034375322200706745147694433505589739315889588670778928134523203878912), (262, 3821138944831434448977842505286700959157909493966138613302100272261133278117888), (263, 7410693711188236507108543040556026102609279018600996098525285376506440431173632), (264, 22232081133564709521325629121668078307827837055802988295575856129519320890867712), (265, 37053468555941182535542715202780130513046395093004980492626426882532201484779520), (266, 7410693711188236507108543040556026102609279018600996098525285376506440833826816), (267, 125981793090200020620845231689452443744357743316216933674929851400609485048250368), (268, 244552892469211804734581920338348861386106207613832871251334417424712529799544832), (269, 540980640916741265018923641960589905490477368357872715192345832484970141677780992), (270, 956095280832519825612425623216736055144450263384194137273801271153338711436951552), (271, 1897253382153425862015210589367351370175828698746520641786512513969656629150351360), (12, 3794275180128377091639574036764685364535950857523710002444946112771297432041422848)] mixed (by kernel_rfl) rfl rfl)
      | (refine W.condA (ht := fun hb => ?_) (hf := fun hb => ?_) <;> (try simp at hb) <;> (try (exfalso; omega))))
    all_goals exact Fin.ret ResL.auto
  obtain ⟨a, T, ⟨e1, e2, e3, b1, b2, b3, b4⟩⟩ := three_yes g4 g5 g7 hday g3 g2 hr
  rw [e1] at t1
  rw [e2] at t2
  rw [e3] at t3
  obtain ⟨A1, hA1⟩ : ∃ A, vs.map encVo ++ [[.int .i64 S, .int .i64 d, .bool false]] = A := ⟨_, rfl⟩
  obtain ⟨A2, hA2⟩ : ∃ A, A1 ++ [[.int .i64 S, .int .i64 d, .bool true]] = A := ⟨_, rfl⟩
  obtain ⟨A3, hA3⟩ : ∃ A, A2 ++ [[.int .i64 S, .int .i64 d, .bool false]] = A := ⟨_, rfl⟩
  have lA1 : A1.length ≤ 21 := by rw [← hA1]; simp; omega
  have lA2 : A2.length ≤ 22 := by rw [← hA2]; simp; omega
  replace t1 : ACalls Try.prog 21 [slI us, .one (.sl A1), cI d] (.tup [cI a, cI T, cI 0]) := by rw [← hA1, map_vo3]; exact t1
  replace t2 : ACalls Try.prog 21 [slI us, .one (.sl A2), cI d] (.tup [cI (a + nth us (S : Int).toNat), cI T, cI 0]) := by rw [← hA2, ← hA1, map_vo3, map_vo3]; exact t2
  replace t3 : ACalls Try.prog 21 [slI us, .one (.sl A3), cI d] (.tup [cI a, cI T, cI 0]) := by rw [← hA3, ← hA2, ← hA1, map_vo3, map_vo3, map_vo3]; exact t3
  have eS : (S : Int).toNat = S := by omega
  have b2' := b2
  have b3' := b3
  rw [eS] at b2' b3'
  have hA : Args [o] [f] := ⟨fun x hx => by rw [mem1 hx]; exact ho, fun x hx => by rw [mem1 hx]; exact hf, fun x hx => by rw [mem1 hx]; exact few.1, fun x hx => by rw [mem1 hx]; exact few.2, by simp, by simp⟩
  have u1 := binds_ok [o] [f] [a] [T] hA
  have u2 := binds_ok [o] [f] [a + nth us (S : Int).toNat] [T] hA
  have hun : 0 ≤ nth us (S : Int).toNat := b2
  by_cases he : errB [o] [f] [a] [T] = 0
  case neg =>
    have he2 : ¬ errB [o] [f] [a + nth us (S : Int).toNat] [T] = 0 := he
    have ee : errB [o] [f] [a + nth us (S : Int).toNat] [T] = errB [o] [f] [a] [T] := rfl
    rw [binds_err he] at u1
    rw [binds_err he2, ee] at u2
    generalize errB [o] [f] [a] [T] = er at u1 u2 he
    replace u1 : ACalls Try.prog 10 [slN [o], slN [f], slI [a], slI [T]] (.tup [slB [], cI er]) := u1
    replace u2 : ACalls Try.prog 10 [slN [o], slN [f], slI [a + nth us (S : Int).toNat], slI [T]] (.tup [slB [], cI er]) := u2
    refine ACalls.of_W (qs := [cB true]) [12] 272 Try.func7 (by kernel_rfl) rfl rfl rfl fun G => ?_
    refine W.initA (hw := ?_)
    repeat' (first
      | (refine W.purgeR [(4, [2, 3, 4, 5, 6, 7, 13]), (5, [2, 3, 4, 5, 6, 7, 13, 14]), (9, [2, 3, 4, 5, 6, 7, 13]), (10, [2, 4, 5, 6, 7, 13, 15]), (11, [2, 4, 5, 6, 7, 13, 15, 16]), (12, [2, 4, 5, 6, 7, 13, 15, 16, 17]), (13, [2, 4, 5, 6, 7, 13, 16, 17, 18, 19, 20]), (14, [2, 4, 5, 6, 7, 13, 17, 18, 19, 20, 21, 22, 23]), (15, [2, 4, 6, 7, 13, 18, 19, 20, 21, 22, 23, 24, 25, 26]), (17, [2, 4, 6, 7, 13, 18, 19, 21, 22, 24, 25]), (19, [2, 4, 6, 7, 13, 18, 19, 21, 24]), (20, [2, 4, 6, 7, 13, 19, 21, 24, 27, 28]), (21, [2, 4, 6, 7, 13, 19, 24, 27, 28, 29, 30]), (22, [2, 4, 13, 27, 28, 29, 30, 31, 32]), (24, [2, 4, 13, 27, 28, 29, 31]), (25, [13]), (26, [2, 4, 13, 27, 29, 31]), (27, []), (28, [2, 4, 13, 27, 29, 31])] rfl (by repeat (first | exact PN.nil | apply PN.po rfl | (apply PN.pa; exact rfl; (repeat (first | (apply NR.cons; exact rfl) | exact NR.nil rfl))) | apply PN.a rfl | apply PN.s rfl | apply PN.u rfl | apply PN.m rfl | apply PN.k rfl | apply PN.i rfl | apply PN.skip)) (by repeat (first | exact PB.nil | (apply PB.one; exact rfl; (focus (first | (dsimp only; done) | (dsimp only; exact rfl) | exact rfl)); (focus (first | (dsimp only; done) | (dsimp only; exact rfl) | exact rfl)); exact rfl; (repeat (first | (apply NR.cons; exact rfl) | exact NR.nil rfl)))  | (apply PB.rw; exact rfl; (focus (first | (dsimp only; done) | (dsimp only; exact rfl) | exact rfl)); (focus (first | (dsimp only; done) | (dsimp only; exact rfl) | exact rfl)); exact hA1) | (apply PB.rw; exact rfl; (focus (first | (dsimp only; done) | (dsimp only; exact rfl) | exact rfl)); (focus (first | (dsimp only; done) | (dsimp only; exact rfl) | exact rfl)); exact hA2) | (apply PB.rw; exact rfl; (focus (first | (dsimp only; done) | (dsimp only; exact rfl) | exact rfl)); (focus (first | (dsimp only; done) | (dsimp only; exact rfl) | exact rfl)); exact hA3) | apply PB.cons rfl)) ?_)
      | ((first | apply U_ | (apply Ug_; exact rfl; exact rfl) | (apply Ugq_; exact rfl; exact rfl) | apply Lex.u | (apply Lex.g; exact rfl; exact rfl) | (apply Lex.gq; exact rfl; exact rfl)); (first
    | (apply Q_litD TYok (n := _ + 1); (repeat (first | exact EvR.nil | apply EvR.cons Ev.auto)); exact rfl; exact rfl; exact rfl; exact rfl; exact rfl; exact rfl)
    | exact QX.Move TYok
    | exact QX.Asg TYok
    | exact QX.Fld TYok
    | exact QX.Ld TYok
    | exact QX.Bin TYok
    | exact QX.Pick TYok
    | exact QX.Un TYok
    | exact QX.Len TYok
    | exact QX.Idx TYok
    | exact QX.Ext TYok
    | exact QX.Build TYok
    | (apply Q_calld (h0); exact EvD.auto)
    | (apply Q_calld (h1); exact EvD.auto)
    | (apply Q_call (t1); exact EvL.auto; exact rfl)
    | (apply Q_call (t2); exact EvL.auto; exact rfl)
    | (apply Q_call (t3); exact EvL.auto; exact rfl)
    | (apply Q_calld (u1); exact EvD.auto)
    | (apply Q_calld (u2); exact EvD.auto)); exact rfl)
      | refine SX.Lit TYok (h := ?_)
      | refine SX.App TYok (h := ?_)
      | refine SX.Box TYok (h := ?_)
      | (apply S_appendd TYok; exact Ev.auto; exact Ev.auto; exact rfl; exact rfl; exact rfl; exact rfl; exact rfl; exact rfl; exact rfl; exact rfl; (intro r hr; rw [List.mem_singleton.1 hr]; exact rfl); (constructor <;> simp <;> omega); exact rfl)
      | apply RG.nil
      | apply Lex.nil
      | apply Then.n
      | apply Then.r
      | apply Then.x
      | apply InBlock.n
      | apply InBlock.r
      | apply InBlock.hit
      | (apply InBlock.miss; exact rfl)
      | apply W.seq
      | apply W.region
      | apply W.block
      | apply W.skip
      | apply W.ret
      | apply W.exit
      | (apply S_isnil TYok; exact rfl; exact rfl; exact rfl; exact Ev.auto; intro bn hnil)
      | (apply RG.gT; exact rfl; exact rfl; (first | assumption | decide))
      | (apply RG.gF; exact rfl; exact rfl; (first | assumption | decide | (rw [ne_eq, Bool.not_eq_true]; assumption) | (rw [ne_eq, Bool.not_eq_false]; assumption)); exact rfl)
      | (apply W.draw2 (id := 28) [0, 1, 3, 7, 15, 3, 35, 99, 255, 511, 1023, 2047, 4095, 8191, 16383, 32767, 65535, 131071, 262143, 524287, 1048575, 2097151, 4194303, 4194303, 16777215, 33554431, 67108863, 134217727, 268435455, 536870911, 1073741823, 268435455, 2415919103, 6710886399, 17179869183, 34359738367, 68719476735, 137438953471] [[13], [235], [27, 236], [237, 236], [238, 236], [31, 236], [240, 236], [241, 236], [239, 242, 236], [236, 243], [244], [27, 245], [246, 245], [247, 245], [248, 245], [249, 245], [29, 250], [251, 250], [252, 250], [250, 253, 245], [245, 254], [255], [2, 256], [4, 256], [257, 258, 256], [259, 256], [260, 256], [261, 256], [27, 262], [263, 262], [264, 262], [29, 262], [266, 262], [267, 262], [265, 268, 262], [262, 269, 256], [256, 270], [271]] 38 [(235, 8192), (236, 55213970774324510299478046898216203619608871777363092441300193790394368), (237, 110427941548649020598956093796432407239217743554726184882600387715006464), (238, 331283824645947061796868281389297221717653230664178554647801162742366208), (239, 552139707743245102994780468982162036196088717773630924413001937903943680), (240, 110427941548649020598956093796432407239217743554726184882600389728272384), (241, 1877275006327033350182253594539350923066701640430345143004206588873408512), (242, 3644122071105417679765551095282269438894185537305964101125812790166028288), (243, 8061239733051378503723794847139565728462895279495011496429828293397577728), (244, 14245204459775723657265336099739780533859088918559677849855449997921746944), (245, 28269553036454149273332760011886696253239742350009903329945699220681916416), (246, 56539106072908298546665520023773392506479484700019806659891398441498050560), (247, 169617318218724895639996560071320177519438454100059419979674195324091498496), (248, 282695530364541492733327600118866962532397423500099033299456992206819164160), (249, 508851954656174686919989680213960532558315362300178259939022585972274495488), (250, 961164803239441075293313840404147672610151239900336713218153773503185158144), (251, 1809251394333065553493296640760748560207343510400633813116524750124179521536), (252, 5427754182999196660479889922282245680622030531201901439349574250370927951872), (253, 9046256971665327767466483203803742801036717552003169065582623750618213253120), (254, 16339801655070498279986335286870510434372571078305724124708614149554147688448), (255, 29004561415401957154439411772195750355823975651110160816524287400419646242816), (256, 57896044618658097711785492504343953926634992332820282019728792003956564819968), (257, 115792089237316195423570985008687907853269984665640564039457584007913129639940), (258, 115792089237316195423570985008687907853269984665640564039457584007913129639952), (259, 810544624661213367964996895060815354972889892659483948276203088055391907479552), (260, 1042128803135845758812138865078191170679429861990765076355118256071218166759424), (261, 1968465517034375322200706745147694433505589739315889588670778928134523203878912), (262, 3821138944831434448977842505286700959157909493966138613302100272261133278117888), (263, 7410693711188236507108543040556026102609279018600996098525285376506440431173632), (264, 22232081133564709521325629121668078307827837055802988295575856129519320890867712), (265, 37053468555941182535542715202780130513046395093004980492626426882532201484779520), (266, 7410693711188236507108543040556026102609279018600996098525285376506440833826816), (267, 125981793090200020620845231689452443744357743316216933674929851400609485048250368), (268, 244552892469211804734581920338348861386106207613832871251334417424712529799544832), (269, 540980640916741265018923641960589905490477368357872715192345832484970141677780992), (270, 956095280832519825612425623216736055144450263384194137273801271153338711436951552), (271, 1897253382153425862015210589367351370175828698746520641786512513969656629150351360), (12, 3794275180128377091639574036764685364535950857523710002444946112771297432041422848)] mixed (by kernel_rfl) rfl rfl)
      | (refine W.condA (ht := fun hb => ?_) (hf := fun hb => ?_) <;> (try simp at hb) <;> (try (exfalso; omega))))
    all_goals exact Fin.ret ResL.auto
  have he2 : errB [o] [f] [a + nth us (S : Int).toNat] [T] = 0 := he
  rw [binds_zero he, one_out] at u1
  rw [binds_zero he2, one_out] at u2
  have hup : gotF o f a T = true → gotF o f (a + nth us (S : Int).toNat) T = true := fun h => got_up (by omega) b3 h
  have hsame : ¬ 0 < nth us (S : Int).toNat → gotF o f a T = gotF o f (a + nth us (S : Int).toNat) T := fun h => by rw [show nth us (S : Int).toNat = 0 by omega, Int.add_zero]
  replace u1 : ACalls Try.prog 10 [slN [o], slN [f], slI [a], slI [T]] (.tup [slB [gotF o f a T], cI 0]) := u1
  replace u2 : ACalls Try.prog 10 [slN [o], slN [f], slI [a + nth us (S : Int).toNat], slI [T]] (.tup [slB [gotF o f (a + nth us (S : Int).toNat) T], cI 0]) := u2
  generalize gotF o f a T = p at u1 hup hsame
  generalize gotF o f (a + nth us (S : Int).toNat) T = q at u2 hup hsame
  have hn : ∀ x : Bool, nth [x] (0 : Int).toNat = x := fun x => by simp [nth]
  rw [eS] at hsame
  refine ACalls.of_W (qs := [cB true]) [12] 272 Try.func7 (by kernel_rfl) rfl rfl rfl fun G => ?_
  refine W.initA (hw := ?_)
  repeat' (first
    | (refine W.purgeR [(4, [2, 3, 4, 5, 6, 7, 13]), (5, [2, 3, 4, 5, 6, 7, 13, 14]), (9, [2, 3, 4, 5, 6, 7, 13]), (10, [2, 4, 5, 6, 7, 13, 15]), (11, [2, 4, 5, 6, 7, 13, 15, 16]), (12, [2, 4, 5, 6, 7, 13, 15, 16, 17]), (13, [2, 4, 5, 6, 7, 13, 16, 17, 18, 19, 20]), (14, [2, 4, 5, 6, 7, 13, 17, 18, 19, 20, 21, 22, 23]), (15, [2, 4, 6, 7, 13, 18, 19, 20, 21, 22, 23, 24, 25, 26]), (17, [2, 4, 6, 7, 13, 18, 19, 21, 22, 24, 25]), (19, [2, 4, 6, 7, 13, 18, 19, 21, 24]), (20, [2, 4, 6, 7, 13, 19, 21, 24, 27, 28]), (21, [2, 4, 6, 7, 13, 19, 24, 27, 28, 29, 30]), (22, [2, 4, 13, 27, 28, 29, 30, 31, 32]), (24, [2, 4, 13, 27, 28, 29, 31]), (25, [13]), (26, [2, 4, 13, 27, 29, 31]), (27, []), (28, [2, 4, 13, 27, 29, 31])] rfl (by repeat (first | exact PN.nil | apply PN.po rfl | (apply PN.pa; exact rfl; (repeat (first | (apply NR.cons; exact rfl) | exact NR.nil rfl))) | apply PN.a rfl | apply PN.s rfl | apply PN.u rfl | apply PN.m rfl | apply PN.k rfl | apply PN.i rfl | apply PN.skip)) (by repeat (first | exact PB.nil | (apply PB.one; exact rfl; (focus (first | (dsimp only; done) | (dsimp only; exact rfl) | exact rfl)); (focus (first | (dsimp only; done) | (dsimp only; exact rfl) | exact rfl)); exact rfl; (repeat (first | (apply NR.cons; exact rfl) | exact NR.nil rfl)))  | (apply PB.rw; exact rfl; (focus (first | (dsimp only; done) | (dsimp only; exact rfl) | exact rfl)); (focus (first | (dsimp only; done) | (dsimp only; exact rfl) | exact rfl)); exact hA1) | (apply PB.rw; exact rfl; (focus (first | (dsimp only; done) | (dsimp only; exact rfl) | exact rfl)); (focus (first | (dsimp only; done) | (dsimp only; exact rfl) | exact rfl)); exact hA2) | (apply PB.rw; exact rfl; (focus (first | (dsimp only; done) | (dsimp only; exact rfl) | exact rfl)); (focus (first | (dsimp only; done) | (dsimp only; exact rfl) | exact rfl)); exact hA3) | apply PB.cons rfl)) ?_)
    | ((first | apply U_ | (apply Ug_; exact rfl; exact rfl) | (apply Ugq_; exact rfl; exact rfl) | apply Lex.u | (apply Lex.g; exact rfl; exact rfl) | (apply Lex.gq; exact rfl; exact rfl)); (first
    | (apply Q_litD TYok (n := _ + 1); (repeat (first | exact EvR.nil | apply EvR.cons Ev.auto)); exact rfl; exact rfl; exact rfl; exact rfl; exact rfl; exact rfl)
    | (apply Q_indexd TYok; exact Ev.auto; exact Ev.auto; exact rfl; exact rfl; exact rfl; (intro hg; exact getRowI ⟨by decide, by simp⟩); exact rfl)
    | exact QX.Move TYok
    | exact QX.Asg TYok
    | exact QX.Fld TYok
    | exact QX.Ld TYok
    | exact QX.Bin TYok
    | exact QX.Pick TYok
    | exact QX.Un TYok
    | exact QX.Len TYok
    | exact QX.Idx TYok
    | exact QX.Ext TYok
    | exact QX.Build TYok
    | (apply Q_calld (h0); exact EvD.auto)
    | (apply Q_calld (h1); exact EvD.auto)
    | (apply Q_call (t1); exact EvL.auto; exact rfl)
    | (apply Q_call (t2); exact EvL.auto; exact rfl)
    | (apply Q_call (t3); exact EvL.auto; exact rfl)
    | (apply Q_calld (u1); exact EvD.auto)
    | (apply Q_calld (u2); exact EvD.auto)); exact rfl)
    | refine SX.Lit TYok (h := ?_)
    | refine SX.App TYok (h := ?_)
    | refine SX.Box TYok (h := ?_)
    | (apply S_appendd TYok; exact Ev.auto; exact Ev.auto; exact rfl; exact rfl; exact rfl; exact rfl; exact rfl; exact rfl; exact rfl; exact rfl; (intro r hr; rw [List.mem_singleton.1 hr]; exact rfl); (constructor <;> simp <;> omega); exact rfl)
    | apply RG.nil
    | apply Lex.nil
    | apply Then.n
    | apply Then.r
    | apply Then.x
    | apply InBlock.n
    | apply InBlock.r
    | apply InBlock.hit
    | (apply InBlock.miss; exact rfl)
    | apply W.seq
    | apply W.region
    | apply W.block
    | apply W.skip
    | apply W.ret
    | apply W.exit
    | (apply S_isnil TYok; exact rfl; exact rfl; exact rfl; exact Ev.auto; intro bn hnil)
    | (apply RG.gT; exact rfl; exact rfl; (first | assumption | decide))
    | (apply RG.gF; exact rfl; exact rfl; (first | assumption | decide | (rw [ne_eq, Bool.not_eq_true]; assumption) | (rw [ne_eq, Bool.not_eq_false]; assumption)); exact rfl)
    | (apply W.draw2 (id := 28) [0, 1, 3, 7, 15, 3, 35, 99, 255, 511, 1023, 2047, 4095, 8191, 16383, 32767, 65535, 131071, 262143, 524287, 1048575, 2097151, 4194303, 4194303, 16777215, 33554431, 67108863, 134217727, 268435455, 536870911, 1073741823, 268435455, 2415919103, 6710886399, 17179869183, 34359738367, 68719476735, 137438953471] [[13], [235], [27, 236], [237, 236], [238, 236], [31, 236], [240, 236], [241, 236], [239, 242, 236], [236, 243], [244], [27, 245], [246, 245], [247, 245], [248, 245], [249, 245], [29, 250], [251, 250], [252, 250], [250, 253, 245], [245, 254], [255], [2, 256], [4, 256], [257, 258, 256], [259, 256], [260, 256], [261, 256], [27, 262], [263, 262], [264, 262], [29, 262], [266, 262], [267, 262], [265, 268, 262], [262, 269, 256], [256, 270], [271]] 38 [(235, 8192), (236, 55213970774324510299478046898216203619608871777363092441300193790394368), (237, 110427941548649020598956093796432407239217743554726184882600387715006464), (238, 331283824645947061796868281389297221717653230664178554647801162742366208), (239, 552139707743245102994780468982162036196088717773630924413001937903943680), (240, 110427941548649020598956093796432407239217743554726184882600389728272384), (241, 1877275006327033350182253594539350923066701640430345143004206588873408512), (242, 3644122071105417679765551095282269438894185537305964101125812790166028288), (243, 8061239733051378503723794847139565728462895279495011496429828293397577728), (244, 14245204459775723657265336099739780533859088918559677849855449997921746944), (245, 28269553036454149273332760011886696253239742350009903329945699220681916416), (246, 56539106072908298546665520023773392506479484700019806659891398441498050560), (247, 169617318218724895639996560071320177519438454100059419979674195324091498496), (248, 282695530364541492733327600118866962532397423500099033299456992206819164160), (249, 508851954656174686919989680213960532558315362300178259939022585972274495488), (250, 961164803239441075293313840404147672610151239900336713218153773503185158144), (251, 1809251394333065553493296640760748560207343510400633813116524750124179521536), (252, 5427754182999196660479889922282245680622030531201901439349574250370927951872), (253, 9046256971665327767466483203803742801036717552003169065582623750618213253120), (254, 16339801655070498279986335286870510434372571078305724124708614149554147688448), (255, 29004561415401957154439411772195750355823975651110160816524287400419646242816), (256, 57896044618658097711785492504343953926634992332820282019728792003956564819968), (257, 115792089237316195423570985008687907853269984665640564039457584007913129639940), (258, 115792089237316195423570985008687907853269984665640564039457584007913129639952), (259, 810544624661213367964996895060815354972889892659483948276203088055391907479552), (260, 1042128803135845758812138865078191170679429861990765076355118256071218166759424), (261, 1968465517034375322200706745147694433505589739315889588670778928134523203878912), (262, 3821138944831434448977842505286700959157909493966138613302100272261133278117888), (263, 7410693711188236507108543040556026102609279018600996098525285376506440431173632), (264, 22232081133564709521325629121668078307827837055802988295575856129519320890867712), (265, 37053468555941182535542715202780130513046395093004980492626426882532201484779520), (266, 7410693711188236507108543040556026102609279018600996098525285376506440833826816), (267, 125981793090200020620845231689452443744357743316216933674929851400609485048250368), (268, 244552892469211804734581920338348861386106207613832871251334417424712529799544832), (269, 540980640916741265018923641960589905490477368357872715192345832484970141677780992), (270, 956095280832519825612425623216736055144450263384194137273801271153338711436951552), (271, 1897253382153425862015210589367351370175828698746520641786512513969656629150351360), (12, 3794275180128377091639574036764685364535950857523710002444946112771297432041422848)] mixed (by kernel_rfl) rfl rfl)
    | (refine W.condA (ht := fun hb => ?_) (hf := fun hb => ?_) <;> (try simp at hb) <;> (try (exfalso; omega))))
  all_goals first
    | exact Fin.ret ResL.auto
    | (refine Fin.ret (ResL.cons rfl rfl (PSub.of_eq (congrArg (fun b => PV.one (Cell.bool b)) ?_)) ResL.nil); simp only [hn, eS]; clear u1 u2; cases p <;> cases q <;> simp_all; done)
    | trace_state
end Go.Proofs.Ytionjeodcmnneaa
