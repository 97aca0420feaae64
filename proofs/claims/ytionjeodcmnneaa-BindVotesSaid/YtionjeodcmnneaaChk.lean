/-
  What Binds refuses
-/
import Derived.Test.YtionjeodcmnneaaRi
import Derived.Test.YtionjeodcmnneaaNeed
import Derived.Test.YtionjeodcmnneaaFw
set_option linter.unusedVariables false
set_option linter.unusedSimpArgs false
set_option maxHeartbeats 8000000
namespace Go.Proofs.Ytionjeodcmnneaa
open Lf Go
attribute [local irreducible] PureOp EffOp Ev RG W Then InBlock Lf.Fin nth App InitE Pick SubE SubF SubG EvL EvD EvP EvR ResL Lf.Lex SubR SubBR RA RAll EvC FinO FinM ResM FinB ResD

/-! ### maps of names -/
theorem KSt : KeyK Try.prog 9 kS := KeyK.str (by kernel_rfl)
def cellBl (b : Bool) : List Cell := [.bool b]
theorem mget_mput {γ : Type} : ∀ (M : List (Str × γ)) (k s : Str) (v : γ), mget (mput M k v) s = if k = s then some v else mget M s
  | [], k, s, v => by simp [mput, mget]
  | (a, x) :: r, k, s, v => by
    rw [mput]
    by_cases h : a = k
    · rw [if_pos h, mget, mget]
      subst h
      by_cases h2 : a = s
      · rw [if_pos h2, if_pos h2]
      · rw [if_neg h2, if_neg h2, if_neg h2]
    · rw [if_neg h, mget, mget, mget_mput r k s v]
      by_cases h2 : a = s
      · subst h2
        rw [if_pos rfl, if_pos rfl, if_neg (fun e => h e.symm)]
      · rw [if_neg h2, if_neg h2]
def Holds (M : List (Str × Bool)) (p : Str → Bool) : Prop := ∀ s, mget M s = if p s = true then some true else none
theorem Holds.put {M : List (Str × Bool)} {p q : Str → Bool} {k : Str} (h : Holds M p) (hq : ∀ s, q s = (decide (k = s) || p s)) : Holds (mput M k true) q := fun s => by
  rw [mget_mput, hq]
  by_cases e : k = s
  · rw [if_pos e, decide_eq_true e]; rfl
  · rw [if_neg e, h, decide_eq_false e, Bool.false_or]
/-! ### what is refused -/
def nameK (o : List Ind) (k : Nat) (s : Str) : Bool := (List.range k).any fun i => decide ((nth o i).name = s)
def dupF (o : List Ind) : Bool := (List.range o.length).any fun i => nameK o i (nth o i).name
def misK (o f : List Ind) (i : Nat) : Bool := !decide ((nth o i).name = (nth f i).name) || !decide ((nth o i).issuer = (nth f i).issuer)
def misF (o f : List Ind) : Bool := (List.range o.length).any (misK o f)
def shapeF (o f : List Ind) (y t : List Int) : Bool := decide (f.length = o.length) && decide (y.length = o.length) && decide (t.length = o.length) && decide (o.length ≤ 400)
def errB (o f : List Ind) (y t : List Int) : Int := if shapeF o f y t = false ∨ (o.any fun x => !rightN x) = true ∨ (f.any fun x => !rightN x) = true then 1 else if dupF o = true then 5 else if misF o f = true then 11 else 0
theorem range_succ_any {k : Nat} {p : Nat → Bool} : (List.range (k + 1)).any p = ((List.range k).any p || p k) := by
  rw [List.range_succ]; simp
theorem range_yes {n k : Nat} {p : Nat → Bool} (hk : k < n) (h : p k = true) : (List.range n).any p = true := List.any_eq_true.2 ⟨k, List.mem_range.2 hk, h⟩
theorem range_no {n : Nat} {p : Nat → Bool} (h : ∀ j, j < n → p j = false) : (List.range n).any p = false := List.any_eq_false.2 fun j hj => by rw [h j (List.mem_range.1 hj)]; decide
structure Args (o f : List Ind) : Prop where
  ok : ∀ x ∈ o, OkN x
  ok' : ∀ x ∈ f, OkN x
  sm : ∀ x ∈ o, x.lets.length ≤ 1000 ∧ x.covs.length ≤ 1000
  sm' : ∀ x ∈ f, x.lets.length ≤ 1000 ∧ x.covs.length ≤ 1000
  len : o.length ≤ 9223372036854775807
  len' : f.length ≤ 9223372036854775807
theorem shape_iff {o f : List Ind} {y t : List Int} : shapeF o f y t = true ↔ f.length = o.length ∧ y.length = o.length ∧ t.length = o.length ∧ o.length ≤ 400 := by
  simp only [shapeF, Bool.and_eq_true, decide_eq_true_iff, and_assoc]
set_option maxRecDepth 20000 in
theorem check_ok (o f : List Ind) (y t : List Int) (h : Args o f) : ACalls Try.prog 23 [slN o, slN f, slI y, slI t] (.pv (cI (errB o f y t))) := by
  have c1 := containsN_ok o 41 [] (fun x => !rightN x) h.len (fun x hx => wrong_ok x (h.ok x hx) (h.sm x hx))
  have c2 := containsN_ok f 41 [] (fun x => !rightN x) h.len' (fun x hx => wrong_ok x (h.ok' x hx) (h.sm' x hx))
  have z1 := h.len
  by_cases hc : shapeF o f y t = false ∨ (o.any fun x => !rightN x) = true ∨ (f.any fun x => !rightN x) = true
  · rw [errB, if_pos hc]
    refine ACalls.of_W (qs := [cI 1]) [8] 89 Try.func23 (by kernel_rfl) rfl rfl rfl fun G => ?_
    refine W.initA (hw := ?_)
    repeat' (first
      | apply RG.nil
      | apply Lex.nil
      | apply Then.n
      | apply Then.r
      | apply Then.x
      | apply InBlock.n
      | apply InBlock.r
      | apply InBlock.hit
      | (apply InBlock.miss; exact rfl)
      | apply W.seq
      | apply W.region
      | apply W.block
      | apply W.skip
      | apply W.ret
      | apply W.exit
      | (apply W.draw2 (id := 16) [0, 1, 0, 0, 12, 28, 60, 127, 255, 511, 1023, 511, 511, 6655, 14847, 31231, 65535, 131071] [[15], [70], [1], [14], [72, 73], [74], [75], [71, 76], [77], [15, 78], [79, 78], [1, 78], [14, 78], [81, 82, 78], [83, 78], [84, 78], [80, 85, 78], [78, 86]] 18 [(70, 32768), (71, 1180591620717411303424), (72, 2), (73, 16384), (74, 14167099448608935641088), (75, 18889465931478580854784), (76, 37778931862957161709568), (77, 77919046967349146025984), (78, 151115727451828646838272), (79, 302231454903657293709312), (80, 906694364710971881029632), (81, 302231454903657293676546), (82, 302231454903657293692928), (83, 7555786372591432341913600), (84, 9973638011820690691325952), (85, 19645044568737724088975360), (86, 40196783502186420058980352), (87, 77673483910239924474871808)] mixed (by kernel_rfl) rfl rfl)
      | ((first | apply U_ | (apply Ug_; exact rfl; exact rfl) | (apply Ugq_; exact rfl; exact rfl) | apply Lex.u | (apply Lex.g; exact rfl; exact rfl) | (apply Lex.gq; exact rfl; exact rfl)); (first
    | exact QX.Move TYok
    | exact QX.Asg TYok
    | exact QX.Fld TYok
    | exact QX.Ld TYok
    | exact QX.Bin TYok
    | exact QX.Pick TYok
    | exact QX.Len TYok
    | exact QX.Idx TYok
    | (apply Q_call (c1); exact EvL.auto; exact rfl)
    | (apply Q_call (c2); exact EvL.auto; exact rfl)); exact rfl)
      | refine SX.Alloc TYok (h := ?_)
      | refine SX.Store TYok (h := ?_)
      | (apply RG.gT; exact rfl; exact rfl; (first | assumption | decide))
      | (apply RG.gF; exact rfl; exact rfl; (first | assumption | decide | (rw [ne_eq, Bool.not_eq_true]; assumption) | (rw [ne_eq, Bool.not_eq_false]; assumption)); exact rfl)
      | (refine W.condA (ht := fun hb => ?_) (hf := fun hb => ?_) <;> (try simp at hb) <;> (try (exfalso; omega))))
    · exact Fin.ret ResL.auto
    exfalso
    rcases hc with hc | hc | hc
    · have : shapeF o f y t = true := shape_iff.2 (by
        obtain ⟨⟨⟨⟨⟨v1, v2⟩, v3⟩, v4⟩, v5⟩, v6⟩ := hb
        exact ⟨by omega, by omega, by omega, by omega⟩)
      rw [this] at hc; cases hc
    · obtain ⟨z, hz, hz2⟩ := List.any_eq_true.1 hc
      rw [hb.1.2 z hz] at hz2; cases hz2
    · obtain ⟨z, hz, hz2⟩ := List.any_eq_true.1 hc
      rw [hb.2 z hz] at hz2; cases hz2
  have hs : shapeF o f y t = true := by
    cases q : shapeF o f y t with
    | true => rfl
    | false => exact absurd (.inl q) hc
  obtain ⟨n1, n2, n3, n4⟩ := shape_iff.1 hs
  have v1 : (o.any fun x => !rightN x) = false := by
    cases q : (o.any fun x => !rightN x) with
    | false => rfl
    | true => exact absurd (.inr (.inl q)) hc
  have v2 : (f.any fun x => !rightN x) = false := by
    cases q : (f.any fun x => !rightN x) with
    | false => rfl
    | true => exact absurd (.inr (.inr q)) hc
  rw [v1] at c1
  rw [v2] at c2
  have e1 : errB o f y t = if dupF o = true then 5 else if misF o f = true then 11 else 0 := by rw [errB, if_neg hc]
  refine ACalls.of_W (qs := [cI (errB o f y t)]) [8] 89 Try.func23 (by kernel_rfl) rfl rfl rfl fun G => ?_
  refine W.initA (hw := ?_)
  repeat' (first
    | apply RG.nil
    | apply Lex.nil
    | apply Then.n
    | apply Then.r
    | apply Then.x
    | apply InBlock.n
    | apply InBlock.r
    | apply InBlock.hit
    | (apply InBlock.miss; exact rfl)
    | apply W.seq
    | apply W.region
    | apply W.block
    | apply W.skip
    | apply W.ret
    | apply W.exit
    | (apply W.draw2 (id := 16) [0, 1, 0, 0, 12, 28, 60, 127, 255, 511, 1023, 511, 511, 6655, 14847, 31231, 65535, 131071] [[15], [70], [1], [14], [72, 73], [74], [75], [71, 76], [77], [15, 78], [79, 78], [1, 78], [14, 78], [81, 82, 78], [83, 78], [84, 78], [80, 85, 78], [78, 86]] 18 [(70, 32768), (71, 1180591620717411303424), (72, 2), (73, 16384), (74, 14167099448608935641088), (75, 18889465931478580854784), (76, 37778931862957161709568), (77, 77919046967349146025984), (78, 151115727451828646838272), (79, 302231454903657293709312), (80, 906694364710971881029632), (81, 302231454903657293676546), (82, 302231454903657293692928), (83, 7555786372591432341913600), (84, 9973638011820690691325952), (85, 19645044568737724088975360), (86, 40196783502186420058980352), (87, 77673483910239924474871808)] mixed (by kernel_rfl) rfl rfl)
    | ((first | apply U_ | (apply Ug_; exact rfl; exact rfl) | (apply Ugq_; exact rfl; exact rfl) | apply Lex.u | (apply Lex.g; exact rfl; exact rfl) | (apply Lex.gq; exact rfl; exact rfl)); (first
    | exact QX.Move TYok
    | exact QX.Asg TYok
    | exact QX.Fld TYok
    | exact QX.Ld TYok
    | exact QX.Bin TYok
    | exact QX.Pick TYok
    | exact QX.Len TYok
    | exact QX.Idx TYok
    | (apply Q_call (c1); exact EvL.auto; exact rfl)
    | (apply Q_call (c2); exact EvL.auto; exact rfl)); exact rfl)
    | refine SX.Alloc TYok (h := ?_)
    | refine SX.Store TYok (h := ?_)
    | (apply S_makeMap TYok 0; exact rfl; exact rfl)
    | (apply RG.gT; exact rfl; exact rfl; (first | assumption | decide))
    | (apply RG.gF; exact rfl; exact rfl; (first | assumption | decide | (rw [ne_eq, Bool.not_eq_true]; assumption) | (rw [ne_eq, Bool.not_eq_false]; assumption)); exact rfl)
    | (refine W.condA (ht := fun hb => ?_) (hf := fun hb => ?_) <;> (try simp at hb) <;> (try (exfalso; omega))))
  apply W.loopP (σ := Nat × List (Str × Bool)) 89 [0, 1, 49, 50] (fun (k, M) => k ≤ o.length ∧ Holds M (nameK o k) ∧ (∀ j, j < k → nameK o j (nth o j).name = false)) (fun (k, M) => [(11, (True, .mp 48)), (51, vI k)]) (fun (k, M) => [(48, ⟨mapTag, 0, M.map (mrow kS cellBl)⟩)]) (fun (k, M) => o.length - k) ((0, []))
  case hp => repeat (first | exact Pick.nil | apply Pick.cons rfl)
  case h0 =>
    refine ⟨⟨by simp, fun s => by simp [mget, nameK], fun j hj => absurd hj (by omega)⟩, ?_⟩
    exact Le.auto
  case round =>
    rintro ⟨k, M⟩ ⟨k1, k2, k3⟩
    apply W.norm (by repeat (first | exact App.nil | apply App.cons))
    dsimp only
    by_cases hk : k < o.length
    · cases hd : nameK o k (nth o k).name with
      | true =>
        have hg : mget M (nth o k).name = some true := by rw [k2, if_pos hd]
        have e2 : dupF o = true := range_yes hk hd
        rw [e1, if_pos e2]
        repeat' (first
          | apply RG.nil
          | apply Lex.nil
          | apply Then.n
          | apply Then.r
          | apply Then.x
          | apply InBlock.n
          | apply InBlock.r
          | apply InBlock.hit
          | (apply InBlock.miss; exact rfl)
          | apply W.seq
          | apply W.region
          | apply W.block
          | apply W.skip
          | apply W.ret
          | apply W.exit
          | (apply W.draw2 (id := 16) [0, 1, 0, 0, 12, 28, 60, 127, 255, 511, 1023, 511, 511, 6655, 14847, 31231, 65535, 131071] [[15], [70], [1], [14], [72, 73], [74], [75], [71, 76], [77], [15, 78], [79, 78], [1, 78], [14, 78], [81, 82, 78], [83, 78], [84, 78], [80, 85, 78], [78, 86]] 18 [(70, 32768), (71, 1180591620717411303424), (72, 2), (73, 16384), (74, 14167099448608935641088), (75, 18889465931478580854784), (76, 37778931862957161709568), (77, 77919046967349146025984), (78, 151115727451828646838272), (79, 302231454903657293709312), (80, 906694364710971881029632), (81, 302231454903657293676546), (82, 302231454903657293692928), (83, 7555786372591432341913600), (84, 9973638011820690691325952), (85, 19645044568737724088975360), (86, 40196783502186420058980352), (87, 77673483910239924474871808)] mixed (by kernel_rfl) rfl rfl)
          | ((first | apply U_ | (apply Ug_; exact rfl; exact rfl) | (apply Ugq_; exact rfl; exact rfl) | apply Lex.u | (apply Lex.g; exact rfl; exact rfl) | (apply Lex.gq; exact rfl; exact rfl)); (first
    | exact QX.Move TYok
    | exact QX.Asg TYok
    | exact QX.Fld TYok
    | exact QX.Ld TYok
    | exact QX.Bin TYok
    | exact QX.Pick TYok
    | exact QX.Len TYok
    | exact QX.Idx TYok
    | (apply Q_lookup TYok KSt (vc := cellBl); exact Ev.auto; exact rfl; exact Ev.auto; exact rfl; exact rfl; exact rfl; (rw [hg]))); exact rfl)
          | refine SX.Alloc TYok (h := ?_)
          | refine SX.Store TYok (h := ?_)
          | (apply RG.gT; exact rfl; exact rfl; (first | assumption | decide))
          | (apply RG.gF; exact rfl; exact rfl; (first | assumption | decide | (rw [ne_eq, Bool.not_eq_true]; assumption) | (rw [ne_eq, Bool.not_eq_false]; assumption)); exact rfl)
          | (refine W.condA (ht := fun hb => ?_) (hf := fun hb => ?_) <;> (try simp at hb) <;> (try (exfalso; omega))))
        exact Fin.ret ResL.auto
      | false =>
        have hg : mget M (nth o k).name = none := by rw [k2, if_neg (by rw [hd]; decide)]
        repeat' (first
          | apply RG.nil
          | apply Lex.nil
          | apply Then.n
          | apply Then.r
          | apply Then.x
          | apply InBlock.n
          | apply InBlock.r
          | apply InBlock.hit
          | (apply InBlock.miss; exact rfl)
          | apply W.seq
          | apply W.region
          | apply W.block
          | apply W.skip
          | apply W.ret
          | apply W.exit
          | (apply W.draw2 (id := 16) [0, 1, 0, 0, 12, 28, 60, 127, 255, 511, 1023, 511, 511, 6655, 14847, 31231, 65535, 131071] [[15], [70], [1], [14], [72, 73], [74], [75], [71, 76], [77], [15, 78], [79, 78], [1, 78], [14, 78], [81, 82, 78], [83, 78], [84, 78], [80, 85, 78], [78, 86]] 18 [(70, 32768), (71, 1180591620717411303424), (72, 2), (73, 16384), (74, 14167099448608935641088), (75, 18889465931478580854784), (76, 37778931862957161709568), (77, 77919046967349146025984), (78, 151115727451828646838272), (79, 302231454903657293709312), (80, 906694364710971881029632), (81, 302231454903657293676546), (82, 302231454903657293692928), (83, 7555786372591432341913600), (84, 9973638011820690691325952), (85, 19645044568737724088975360), (86, 40196783502186420058980352), (87, 77673483910239924474871808)] mixed (by kernel_rfl) rfl rfl)
          | ((first | apply U_ | (apply Ug_; exact rfl; exact rfl) | (apply Ugq_; exact rfl; exact rfl) | apply Lex.u | (apply Lex.g; exact rfl; exact rfl) | (apply Lex.gq; exact rfl; exact rfl)); (first
    | exact QX.Move TYok
    | exact QX.Asg TYok
    | exact QX.Fld TYok
    | exact QX.Ld TYok
    | exact QX.Bin TYok
    | exact QX.Pick TYok
    | exact QX.Len TYok
    | exact QX.Idx TYok
    | (apply Q_lookup TYok KSt (vc := cellBl); exact Ev.auto; exact rfl; exact Ev.auto; exact rfl; exact rfl; exact rfl; (rw [hg]))); exact rfl)
          | refine SX.Alloc TYok (h := ?_)
          | refine SX.Store TYok (h := ?_)
          | (apply S_mapUpdate TYok KSt (vc := cellBl) (v := true); exact Ev.auto; exact rfl; exact Ev.auto; exact Ev.auto; exact rfl; exact rfl; exact rfl)
          | (apply RG.gT; exact rfl; exact rfl; (first | assumption | decide))
          | (apply RG.gF; exact rfl; exact rfl; (first | assumption | decide | (rw [ne_eq, Bool.not_eq_true]; assumption) | (rw [ne_eq, Bool.not_eq_false]; assumption)); exact rfl)
          | (refine W.condA (ht := fun hb => ?_) (hf := fun hb => ?_) <;> (try simp at hb) <;> (try (exfalso; omega))))
        refine ⟨(k + 1, mput M (nth o k).name true), ⟨by omega, k2.put fun s => by rw [nameK, range_succ_any, ← nameK, Bool.or_comm], fun j hj => ?_⟩, ?_, ?_⟩
        · by_cases e : j = k
          · subst e; exact hd
          · exact k3 j (by omega)
        · exact Le.auto
        · (try simp only); omega
    · obtain rfl : k = o.length := by omega
      have e2 : dupF o = false := range_no k3
      rw [e2] at e1
      repeat' (first
        | apply RG.nil
        | apply Lex.nil
        | apply Then.n
        | apply Then.r
        | apply Then.x
        | apply InBlock.n
        | apply InBlock.r
        | apply InBlock.hit
        | (apply InBlock.miss; exact rfl)
        | apply W.seq
        | apply W.region
        | apply W.block
        | apply W.skip
        | apply W.ret
        | apply W.exit
        | (apply W.draw2 (id := 16) [0, 1, 0, 0, 12, 28, 60, 127, 255, 511, 1023, 511, 511, 6655, 14847, 31231, 65535, 131071] [[15], [70], [1], [14], [72, 73], [74], [75], [71, 76], [77], [15, 78], [79, 78], [1, 78], [14, 78], [81, 82, 78], [83, 78], [84, 78], [80, 85, 78], [78, 86]] 18 [(70, 32768), (71, 1180591620717411303424), (72, 2), (73, 16384), (74, 14167099448608935641088), (75, 18889465931478580854784), (76, 37778931862957161709568), (77, 77919046967349146025984), (78, 151115727451828646838272), (79, 302231454903657293709312), (80, 906694364710971881029632), (81, 302231454903657293676546), (82, 302231454903657293692928), (83, 7555786372591432341913600), (84, 9973638011820690691325952), (85, 19645044568737724088975360), (86, 40196783502186420058980352), (87, 77673483910239924474871808)] mixed (by kernel_rfl) rfl rfl)
        | ((first | apply U_ | (apply Ug_; exact rfl; exact rfl) | (apply Ugq_; exact rfl; exact rfl) | apply Lex.u | (apply Lex.g; exact rfl; exact rfl) | (apply Lex.gq; exact rfl; exact rfl)); (first
    | exact QX.Move TYok
    | exact QX.Asg TYok
    | exact QX.Fld TYok
    | exact QX.Ld TYok
    | exact QX.Bin TYok
    | exact QX.Pick TYok
    | exact QX.Len TYok
    | exact QX.Idx TYok); exact rfl)
        | refine SX.Alloc TYok (h := ?_)
        | refine SX.Store TYok (h := ?_)
        | (apply RG.gT; exact rfl; exact rfl; (first | assumption | decide))
        | (apply RG.gF; exact rfl; exact rfl; (first | assumption | decide | (rw [ne_eq, Bool.not_eq_true]; assumption) | (rw [ne_eq, Bool.not_eq_false]; assumption)); exact rfl)
        | (refine W.condA (ht := fun hb => ?_) (hf := fun hb => ?_) <;> (try simp at hb) <;> (try (exfalso; omega))))
      apply W.loopP (σ := Nat) 89 [1, 63, 64] (fun k => k ≤ o.length ∧ (∀ j, j < k → misK o f j = false)) (fun k => [(65, vI k)]) (fun k => []) (fun k => o.length - k) (0)
      case hp => repeat (first | exact Pick.nil | apply Pick.cons rfl)
      case h0 =>
        refine ⟨⟨by simp, fun j hj => absurd hj (by omega)⟩, ?_⟩
        exact Le.auto
      case round =>
        rintro k ⟨k1, k2⟩
        apply W.norm (by repeat (first | exact App.nil | apply App.cons))
        by_cases hk : k < o.length
        · cases hd : misK o f k with
          | true =>
            have e3 : misF o f = true := range_yes hk hd
            rw [e1, if_neg (by decide), if_pos e3]
            repeat' (first
              | apply RG.nil
              | apply Lex.nil
              | apply Then.n
              | apply Then.r
              | apply Then.x
              | apply InBlock.n
              | apply InBlock.r
              | apply InBlock.hit
              | (apply InBlock.miss; exact rfl)
              | apply W.seq
              | apply W.region
              | apply W.block
              | apply W.skip
              | apply W.ret
              | apply W.exit
              | (apply W.draw2 (id := 16) [0, 1, 0, 0, 12, 28, 60, 127, 255, 511, 1023, 511, 511, 6655, 14847, 31231, 65535, 131071] [[15], [70], [1], [14], [72, 73], [74], [75], [71, 76], [77], [15, 78], [79, 78], [1, 78], [14, 78], [81, 82, 78], [83, 78], [84, 78], [80, 85, 78], [78, 86]] 18 [(70, 32768), (71, 1180591620717411303424), (72, 2), (73, 16384), (74, 14167099448608935641088), (75, 18889465931478580854784), (76, 37778931862957161709568), (77, 77919046967349146025984), (78, 151115727451828646838272), (79, 302231454903657293709312), (80, 906694364710971881029632), (81, 302231454903657293676546), (82, 302231454903657293692928), (83, 7555786372591432341913600), (84, 9973638011820690691325952), (85, 19645044568737724088975360), (86, 40196783502186420058980352), (87, 77673483910239924474871808)] mixed (by kernel_rfl) rfl rfl)
              | ((first | apply U_ | (apply Ug_; exact rfl; exact rfl) | (apply Ugq_; exact rfl; exact rfl) | apply Lex.u | (apply Lex.g; exact rfl; exact rfl) | (apply Lex.gq; exact rfl; exact rfl)); (first
    | exact QX.Move TYok
    | exact QX.Asg TYok
    | exact QX.Fld TYok
    | exact QX.Ld TYok
    | exact QX.Bin TYok
    | exact QX.Pick TYok
    | exact QX.Len TYok
    | exact QX.Idx TYok); exact rfl)
              | refine SX.Alloc TYok (h := ?_)
              | refine SX.Store TYok (h := ?_)
              | (apply RG.gT; exact rfl; exact rfl; (first | assumption | decide))
              | (apply RG.gF; exact rfl; exact rfl; (first | assumption | decide | (rw [ne_eq, Bool.not_eq_true]; assumption) | (rw [ne_eq, Bool.not_eq_false]; assumption)); exact rfl)
              | (refine W.condA (ht := fun hb => ?_) (hf := fun hb => ?_) <;> (try simp at hb) <;> (try (exfalso; omega))))
            · exact Fin.ret ResL.auto
            exfalso
            simp [misK, hb] at hd
          | false =>
            simp only [misK, Bool.or_eq_false_iff, Bool.not_eq_false', decide_eq_true_iff] at hd
            have hd' : misK o f k = false := by simp [misK, hd]
            repeat' (first
              | apply RG.nil
              | apply Lex.nil
              | apply Then.n
              | apply Then.r
              | apply Then.x
              | apply InBlock.n
              | apply InBlock.r
              | apply InBlock.hit
              | (apply InBlock.miss; exact rfl)
              | apply W.seq
              | apply W.region
              | apply W.block
              | apply W.skip
              | apply W.ret
              | apply W.exit
              | (apply W.draw2 (id := 16) [0, 1, 0, 0, 12, 28, 60, 127, 255, 511, 1023, 511, 511, 6655, 14847, 31231, 65535, 131071] [[15], [70], [1], [14], [72, 73], [74], [75], [71, 76], [77], [15, 78], [79, 78], [1, 78], [14, 78], [81, 82, 78], [83, 78], [84, 78], [80, 85, 78], [78, 86]] 18 [(70, 32768), (71, 1180591620717411303424), (72, 2), (73, 16384), (74, 14167099448608935641088), (75, 18889465931478580854784), (76, 37778931862957161709568), (77, 77919046967349146025984), (78, 151115727451828646838272), (79, 302231454903657293709312), (80, 906694364710971881029632), (81, 302231454903657293676546), (82, 302231454903657293692928), (83, 7555786372591432341913600), (84, 9973638011820690691325952), (85, 19645044568737724088975360), (86, 40196783502186420058980352), (87, 77673483910239924474871808)] mixed (by kernel_rfl) rfl rfl)
              | ((first | apply U_ | (apply Ug_; exact rfl; exact rfl) | (apply Ugq_; exact rfl; exact rfl) | apply Lex.u | (apply Lex.g; exact rfl; exact rfl) | (apply Lex.gq; exact rfl; exact rfl)); (first
    | exact QX.Move TYok
    | exact QX.Asg TYok
    | exact QX.Fld TYok
    | exact QX.Ld TYok
    | exact QX.Bin TYok
    | exact QX.Pick TYok
    | exact QX.Len TYok
    | exact QX.Idx TYok); exact rfl)
              | refine SX.Alloc TYok (h := ?_)
              | refine SX.Store TYok (h := ?_)
              | (apply RG.gT; exact rfl; exact rfl; (first | assumption | decide))
              | (apply RG.gF; exact rfl; exact rfl; (first | assumption | decide | (rw [ne_eq, Bool.not_eq_true]; assumption) | (rw [ne_eq, Bool.not_eq_false]; assumption)); exact rfl)
              | (refine W.condA (ht := fun hb => ?_) (hf := fun hb => ?_) <;> (try simp at hb) <;> (try (exfalso; omega))))
            · exfalso
              rcases hb with hb | hb
              · exact hb hd.1
              · exact hb hd.2
            refine ⟨k + 1, ⟨by omega, upto_fals (q := misK o f) k2 hd'⟩, ?_, ?_⟩
            · exact Le.auto
            · (try simp only); omega
        · obtain rfl : k = o.length := by omega
          have e3 : misF o f = false := range_no k2
          rw [e1, if_neg (by decide), if_neg (by rw [e3]; decide)]
          repeat' (first
            | apply RG.nil
            | apply Lex.nil
            | apply Then.n
            | apply Then.r
            | apply Then.x
            | apply InBlock.n
            | apply InBlock.r
            | apply InBlock.hit
            | (apply InBlock.miss; exact rfl)
            | apply W.seq
            | apply W.region
            | apply W.block
            | apply W.skip
            | apply W.ret
            | apply W.exit
            | (apply W.draw2 (id := 16) [0, 1, 0, 0, 12, 28, 60, 127, 255, 511, 1023, 511, 511, 6655, 14847, 31231, 65535, 131071] [[15], [70], [1], [14], [72, 73], [74], [75], [71, 76], [77], [15, 78], [79, 78], [1, 78], [14, 78], [81, 82, 78], [83, 78], [84, 78], [80, 85, 78], [78, 86]] 18 [(70, 32768), (71, 1180591620717411303424), (72, 2), (73, 16384), (74, 14167099448608935641088), (75, 18889465931478580854784), (76, 37778931862957161709568), (77, 77919046967349146025984), (78, 151115727451828646838272), (79, 302231454903657293709312), (80, 906694364710971881029632), (81, 302231454903657293676546), (82, 302231454903657293692928), (83, 7555786372591432341913600), (84, 9973638011820690691325952), (85, 19645044568737724088975360), (86, 40196783502186420058980352), (87, 77673483910239924474871808)] mixed (by kernel_rfl) rfl rfl)
            | ((first | apply U_ | (apply Ug_; exact rfl; exact rfl) | (apply Ugq_; exact rfl; exact rfl) | apply Lex.u | (apply Lex.g; exact rfl; exact rfl) | (apply Lex.gq; exact rfl; exact rfl)); (first
    | exact QX.Move TYok
    | exact QX.Asg TYok
    | exact QX.Fld TYok
    | exact QX.Ld TYok
    | exact QX.Bin TYok
    | exact QX.Pick TYok
    | exact QX.Len TYok
    | exact QX.Idx TYok); exact rfl)
            | refine SX.Alloc TYok (h := ?_)
            | refine SX.Store TYok (h := ?_)
            | (apply RG.gT; exact rfl; exact rfl; (first | assumption | decide))
            | (apply RG.gF; exact rfl; exact rfl; (first | assumption | decide | (rw [ne_eq, Bool.not_eq_true]; assumption) | (rw [ne_eq, Bool.not_eq_false]; assumption)); exact rfl)
            | (refine W.condA (ht := fun hb => ?_) (hf := fun hb => ?_) <;> (try simp at hb) <;> (try (exfalso; omega))))
          exact Fin.ret ResL.auto
end Go.Proofs.Ytionjeodcmnneaa
