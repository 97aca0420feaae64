/-
  Binds
-/
import Derived.Test.YtionjeodcmnneaaChk
set_option linter.unusedVariables false
set_option linter.unusedSimpArgs false
set_option maxHeartbeats 8000000
namespace Go.Proofs.Ytionjeodcmnneaa
open Lf Go
attribute [local irreducible] PureOp EffOp Ev RG W Then InBlock Lf.Fin nth App InitE Pick SubE SubF SubG EvL EvD EvP EvR ResL Lf.Lex SubR SubBR RA RAll EvC FinO FinM ResM FinB ResD

/-! ### Binds -/
def gotK (o f : List Ind) (y t : List Int) (k : Nat) : Bool := gotF (nth o k) (nth f k) (nth y k) (nth t k)
def resK (o f : List Ind) (k : Nat) : Bool := resF (nth o k) (nth f k)
def badK (o f : List Ind) (y t : List Int) (k : Nat) : Bool := resK o f k && !gotK o f y t k
def failS (o f : List Ind) (y t : List Int) (k : Nat) (s : Str) : Bool := (List.range k).any fun i => badK o f y t i && decide ((nth o i).issuer = s)
def outK (o f : List Ind) (y t : List Int) (k : Nat) : Bool := gotK o f y t k && !(resK o f k && failS o f y t o.length (nth o k).issuer)
def bindsL (o f : List Ind) (y t : List Int) : List Bool := (List.range o.length).map (outK o f y t)
def bindsF (o f : List Ind) (y t : List Int) : List Bool × Int := if errB o f y t = 0 then (bindsL o f y t, 0) else ([], errB o f y t)
theorem failS_succ {o f : List Ind} {y t : List Int} {k : Nat} {s : Str} : failS o f y t (k + 1) s = (failS o f y t k s || (badK o f y t k && decide ((nth o k).issuer = s))) := by
  unfold failS; rw [range_succ_any]
theorem errB_zero {o f : List Ind} {y t : List Int} (h : errB o f y t = 0) : shapeF o f y t = true ∧ (∀ x ∈ o, rightN x = true) ∧ (∀ x ∈ f, rightN x = true) ∧ dupF o = false ∧ misF o f = false := by
  unfold errB at h
  split at h
  · omega
  · rename_i hc
    split at h
    · omega
    · rename_i hd
      split at h
      · omega
      · rename_i hm
        refine ⟨?_, fun x hx => ?_, fun x hx => ?_, by simpa using hd, by simpa using hm⟩
        · cases q : shapeF o f y t with
          | true => rfl
          | false => exact absurd (.inl q) hc
        · cases q : rightN x with
          | true => rfl
          | false => exact absurd (.inr (.inl (List.any_eq_true.2 ⟨x, hx, by rw [q]; rfl⟩))) hc
        · cases q : rightN x with
          | true => rfl
          | false => exact absurd (.inr (.inr (List.any_eq_true.2 ⟨x, hx, by rw [q]; rfl⟩))) hc
theorem nth_setB {m : List Bool} {k j : Nat} {v : Bool} (hk : k < m.length) : nth (m.set k v) j = if j = k then v else nth m j := by
  simp only [nth, List.getD, List.getElem?_set]
  by_cases h : k = j
  · subst h; simp [hk]
  · rw [if_neg h, if_neg (Ne.symm h)]
theorem ext_nthB {l m : List Bool} (hl : l.length = m.length) (h : ∀ k, k < l.length → nth l k = nth m k) : l = m := by
  apply List.ext_getElem hl
  intro k h1 h2
  have := h k h1
  rwa [nth_eq h1, nth_eq h2] at this
theorem nth_rangeB {f : Nat → Bool} {n k : Nat} (h : k < n) : nth ((List.range n).map f) k = f k := by
  rw [nth_eq (by simpa using h)]; simp
set_option maxRecDepth 20000 in
theorem binds_ok (o f : List Ind) (y t : List Int) (h : Args o f) : ACalls Try.prog 10 [slN o, slN f, slI y, slI t] (.tup [slB (bindsF o f y t).1, cI (bindsF o f y t).2]) := by
  have c1 := check_ok o f y t h
  by_cases he : errB o f y t = 0
  case neg =>
    have e1 : bindsF o f y t = ([], errB o f y t) := by rw [bindsF, if_neg he]
    rw [e1]
    generalize errB o f y t = e at c1 he
    refine ACalls.of_W (qs := [slB [], cI e]) [8, 9] 94 Try.func10 (by kernel_rfl) rfl rfl rfl fun G => ?_
    refine W.initA (hw := ?_)
    repeat' (first
      | apply RG.nil
      | apply Lex.nil
      | apply Then.n
      | apply Then.r
      | apply Then.x
      | apply InBlock.n
      | apply InBlock.r
      | apply InBlock.hit
      | (apply InBlock.miss; exact rfl)
      | apply W.seq
      | apply W.region
      | apply W.block
      | apply W.skip
      | apply W.ret
      | apply W.exit
      | (apply W.draw2 (id := 9) [0, 0, 0, 0, 0, 24, 56, 0, 0, 384, 896, 0, 0, 6144, 14336, 32764, 65535, 131071] [[11], [13], [14], [1], [13], [39, 40], [41], [2], [13], [43, 44], [45], [3], [13], [47, 48], [49], [38, 42, 46, 50], [36, 37]] 17 [(36, 2048), (37, 8192), (38, 16384), (39, 2), (40, 8192), (41, 1649267441664), (42, 2199023255552), (43, 4), (44, 8192), (45, 26388279066624), (46, 35184372088832), (47, 8), (48, 8192), (49, 422212465065984), (50, 562949953421312), (51, 1200941575438336), (52, 206158430208)] mixed (by kernel_rfl) rfl rfl)
      | (apply W.draw2 (id := 10) [0, 0, 0, 6, 14, 31, 63, 127, 127, 511, 1023, 2047, 4095] [[14], [1], [13], [54, 55], [56], [53, 57], [58], [11, 59], [13, 59], [60, 61, 59], [62, 59], [63, 59], [59, 64]] 13 [(53, 16384), (54, 2), (55, 8192), (56, 54043195528445952), (57, 72057594037927936), (58, 153122387330596864), (59, 288230376151711744), (60, 576460752303425536), (61, 576460752303431680), (62, 4035225266123964416), (63, 5188146770730811392), (64, 9799832789158199296), (65, 19023204826012975104)] mixed (by kernel_rfl) rfl rfl)
      | (apply W.draw2 (id := 16) [0, 0, 0, 6, 14, 31, 63, 127, 127, 383, 1023, 2047] [[16], [1], [15], [78, 79], [80], [77, 81], [82], [12, 83], [16, 83], [85, 83], [84, 86, 83], [83, 87]] 12 [(77, 65536), (78, 2), (79, 32768), (80, 906694364710971881029632), (81, 1208925819614629174706176), (82, 2568967366681086996250624), (83, 4835703278458516698824704), (84, 9671406556917033397653504), (85, 9671406556917033397714944), (86, 48357032784585166988247040), (87, 106385472126087367374143488), (88, 164413911467589567760039936)] mixed (by kernel_rfl) rfl rfl)
      | ((first | apply U_ | (apply Ug_; exact rfl; exact rfl) | (apply Ugq_; exact rfl; exact rfl) | apply Lex.u | (apply Lex.g; exact rfl; exact rfl) | (apply Lex.gq; exact rfl; exact rfl)); (first
    | exact QX.Move TYok
    | exact QX.Asg TYok
    | exact QX.Fld TYok
    | exact QX.Ld TYok
    | exact QX.Bin TYok
    | exact QX.Pick TYok
    | exact QX.Un TYok
    | exact QX.Len TYok
    | exact QX.Idx TYok
    | (apply Q_call (c1); exact EvL.auto; exact rfl)); exact rfl)
      | refine SX.Alloc TYok (h := ?_)
      | refine SX.Store TYok (h := ?_)
      | refine SX.Make TYok (h := ?_)
      | (apply RG.gT; exact rfl; exact rfl; (first | assumption | decide))
      | (apply RG.gF; exact rfl; exact rfl; (first | assumption | decide | (rw [ne_eq, Bool.not_eq_true]; assumption) | (rw [ne_eq, Bool.not_eq_false]; assumption)); exact rfl)
      | (refine W.condA (ht := fun hb => ?_) (hf := fun hb => ?_) <;> (try simp at hb) <;> (try (exfalso; omega))))
    exact Fin.ret ResL.auto
  have e1 : bindsF o f y t = (bindsL o f y t, 0) := by rw [bindsF, if_pos he]
  rw [he] at c1
  obtain ⟨hs, -, -, -, -⟩ := errB_zero he
  obtain ⟨n1, n2, n3, n4⟩ := shape_iff.1 hs
  rw [e1]
  refine ACalls.of_W (qs := [slB (bindsL o f y t), cI 0]) [8, 9] 94 Try.func10 (by kernel_rfl) rfl rfl rfl fun G => ?_
  refine W.initA (hw := ?_)
  repeat' (first
    | apply RG.nil
    | apply Lex.nil
    | apply Then.n
    | apply Then.r
    | apply Then.x
    | apply InBlock.n
    | apply InBlock.r
    | apply InBlock.hit
    | (apply InBlock.miss; exact rfl)
    | apply W.seq
    | apply W.region
    | apply W.block
    | apply W.skip
    | apply W.ret
    | apply W.exit
    | (apply W.draw2 (id := 9) [0, 0, 0, 0, 0, 24, 56, 0, 0, 384, 896, 0, 0, 6144, 14336, 32764, 65535, 131071] [[11], [13], [14], [1], [13], [39, 40], [41], [2], [13], [43, 44], [45], [3], [13], [47, 48], [49], [38, 42, 46, 50], [36, 37]] 17 [(36, 2048), (37, 8192), (38, 16384), (39, 2), (40, 8192), (41, 1649267441664), (42, 2199023255552), (43, 4), (44, 8192), (45, 26388279066624), (46, 35184372088832), (47, 8), (48, 8192), (49, 422212465065984), (50, 562949953421312), (51, 1200941575438336), (52, 206158430208)] mixed (by kernel_rfl) rfl rfl)
    | (apply W.draw2 (id := 10) [0, 0, 0, 6, 14, 31, 63, 127, 127, 511, 1023, 2047, 4095] [[14], [1], [13], [54, 55], [56], [53, 57], [58], [11, 59], [13, 59], [60, 61, 59], [62, 59], [63, 59], [59, 64]] 13 [(53, 16384), (54, 2), (55, 8192), (56, 54043195528445952), (57, 72057594037927936), (58, 153122387330596864), (59, 288230376151711744), (60, 576460752303425536), (61, 576460752303431680), (62, 4035225266123964416), (63, 5188146770730811392), (64, 9799832789158199296), (65, 19023204826012975104)] mixed (by kernel_rfl) rfl rfl)
    | (apply W.draw2 (id := 16) [0, 0, 0, 6, 14, 31, 63, 127, 127, 383, 1023, 2047] [[16], [1], [15], [78, 79], [80], [77, 81], [82], [12, 83], [16, 83], [85, 83], [84, 86, 83], [83, 87]] 12 [(77, 65536), (78, 2), (79, 32768), (80, 906694364710971881029632), (81, 1208925819614629174706176), (82, 2568967366681086996250624), (83, 4835703278458516698824704), (84, 9671406556917033397653504), (85, 9671406556917033397714944), (86, 48357032784585166988247040), (87, 106385472126087367374143488), (88, 164413911467589567760039936)] mixed (by kernel_rfl) rfl rfl)
    | ((first | apply U_ | (apply Ug_; exact rfl; exact rfl) | (apply Ugq_; exact rfl; exact rfl) | apply Lex.u | (apply Lex.g; exact rfl; exact rfl) | (apply Lex.gq; exact rfl; exact rfl)); (first
    | exact QX.Move TYok
    | exact QX.Asg TYok
    | exact QX.Fld TYok
    | exact QX.Ld TYok
    | exact QX.Bin TYok
    | exact QX.Pick TYok
    | exact QX.Un TYok
    | exact QX.Len TYok
    | exact QX.Idx TYok
    | (apply Q_call (c1); exact EvL.auto; exact rfl)); exact rfl)
    | refine SX.Alloc TYok (h := ?_)
    | refine SX.Store TYok (h := ?_)
    | refine SX.Make TYok (h := ?_)
    | (apply S_makeMap TYok 0; exact rfl; exact rfl)
    | (apply RG.gT; exact rfl; exact rfl; (first | assumption | decide))
    | (apply RG.gF; exact rfl; exact rfl; (first | assumption | decide | (rw [ne_eq, Bool.not_eq_true]; assumption) | (rw [ne_eq, Bool.not_eq_false]; assumption)); exact rfl)
    | (refine W.condA (ht := fun hb => ?_) (hf := fun hb => ?_) <;> (try simp at hb) <;> (try (exfalso; omega))))
  apply W.loopP (σ := Nat × List Bool × List (Str × Bool)) 94 [0, 1, 2, 3, 29, 30] (fun (k, m, M) => k ≤ o.length ∧ m.length = o.length ∧ (∀ j, j < k → nth m j = gotK o f y t j) ∧ Holds M (failS o f y t k)) (fun (k, m, M) => [(11, (True, .slc 27)), (12, (True, .mp 28)), (31, vI k)]) (fun (k, m, M) => [(27, ⟨4, 1, m.map encB⟩), (28, ⟨mapTag, 0, M.map (mrow kS cellBl)⟩)]) (fun (k, m, M) => o.length - k) ((0, List.replicate (o.length : Int).toNat false, []))
  case hp => repeat (first | exact Pick.nil | apply Pick.cons rfl)
  case h0 =>
    refine ⟨⟨by simp, by simp, fun j hj => absurd hj (by omega), fun s => by simp [mget, failS]⟩, ?_⟩
    exact Le.auto
  case round =>
    rintro ⟨k, m, M⟩ ⟨k1, k2, k3, k4⟩
    apply W.norm (by repeat (first | exact App.nil | apply App.cons))
    dsimp only
    by_cases hk : k < o.length
    · have q1 := got_ok (nth o k) (nth f k) (nth y k) (nth t k) (h.ok _ (nth_mem hk)) (h.ok' _ (nth_mem (by omega)))
      have q2 := reserved_ok38 (nth o k) (nth f k) (h.ok _ (nth_mem hk)) (h.ok' _ (nth_mem (by omega)))
      have hset : nth (m.set k (gotF (nth o k) (nth f k) (nth y k) (nth t k))) k = gotF (nth o k) (nth f k) (nth y k) (nth t k) := by rw [nth_setB (by omega), if_pos rfl]
      have hset' : nth (m.set ((k : Nat) : Int).toNat (gotF (nth o k) (nth f k) (nth y k) (nth t k))) ((k : Nat) : Int).toNat = gotF (nth o k) (nth f k) (nth y k) (nth t k) := hset
      have hn : ∀ j, j < k + 1 → nth (m.set k (gotF (nth o k) (nth f k) (nth y k) (nth t k))) j = gotK o f y t j := fun j hj => by
        rw [nth_setB (by omega)]
        by_cases e : j = k
        · subst e; rw [if_pos rfl]; rfl
        · rw [if_neg e]; exact k3 j (by omega)
      have hlen : (m.set k (gotF (nth o k) (nth f k) (nth y k) (nth t k))).length = o.length := by rw [List.length_set]; exact k2
      cases hbk : badK o f y t k with
      | true =>
        have hbk' := hbk
        simp only [badK, resK, gotK, Bool.and_eq_true, Bool.not_eq_true'] at hbk'
        rw [hbk'.1] at q2
        rw [hbk'.2] at q1 hset hset' hn hlen
        repeat' (first
          | apply RG.nil
          | apply Lex.nil
          | apply Then.n
          | apply Then.r
          | apply Then.x
          | apply InBlock.n
          | apply InBlock.r
          | apply InBlock.hit
          | (apply InBlock.miss; exact rfl)
          | apply W.seq
          | apply W.region
          | apply W.block
          | apply W.skip
          | apply W.ret
          | apply W.exit
          | (apply W.draw2 (id := 9) [0, 0, 0, 0, 0, 24, 56, 0, 0, 384, 896, 0, 0, 6144, 14336, 32764, 65535, 131071] [[11], [13], [14], [1], [13], [39, 40], [41], [2], [13], [43, 44], [45], [3], [13], [47, 48], [49], [38, 42, 46, 50], [36, 37]] 17 [(36, 2048), (37, 8192), (38, 16384), (39, 2), (40, 8192), (41, 1649267441664), (42, 2199023255552), (43, 4), (44, 8192), (45, 26388279066624), (46, 35184372088832), (47, 8), (48, 8192), (49, 422212465065984), (50, 562949953421312), (51, 1200941575438336), (52, 206158430208)] mixed (by kernel_rfl) rfl rfl)
          | (apply W.draw2 (id := 10) [0, 0, 0, 6, 14, 31, 63, 127, 127, 511, 1023, 2047, 4095] [[14], [1], [13], [54, 55], [56], [53, 57], [58], [11, 59], [13, 59], [60, 61, 59], [62, 59], [63, 59], [59, 64]] 13 [(53, 16384), (54, 2), (55, 8192), (56, 54043195528445952), (57, 72057594037927936), (58, 153122387330596864), (59, 288230376151711744), (60, 576460752303425536), (61, 576460752303431680), (62, 4035225266123964416), (63, 5188146770730811392), (64, 9799832789158199296), (65, 19023204826012975104)] mixed (by kernel_rfl) rfl rfl)
          | (apply W.draw2 (id := 16) [0, 0, 0, 6, 14, 31, 63, 127, 127, 383, 1023, 2047] [[16], [1], [15], [78, 79], [80], [77, 81], [82], [12, 83], [16, 83], [85, 83], [84, 86, 83], [83, 87]] 12 [(77, 65536), (78, 2), (79, 32768), (80, 906694364710971881029632), (81, 1208925819614629174706176), (82, 2568967366681086996250624), (83, 4835703278458516698824704), (84, 9671406556917033397653504), (85, 9671406556917033397714944), (86, 48357032784585166988247040), (87, 106385472126087367374143488), (88, 164413911467589567760039936)] mixed (by kernel_rfl) rfl rfl)
          | ((first | apply U_ | (apply Ug_; exact rfl; exact rfl) | (apply Ugq_; exact rfl; exact rfl) | apply Lex.u | (apply Lex.g; exact rfl; exact rfl) | (apply Lex.gq; exact rfl; exact rfl)); (first
    | exact QX.Move TYok
    | exact QX.Asg TYok
    | exact QX.Fld TYok
    | exact QX.Ld TYok
    | exact QX.Bin TYok
    | exact QX.Pick TYok
    | exact QX.Un TYok
    | exact QX.Len TYok
    | exact QX.Idx TYok
    | (apply Q_calld (q1); exact EvD.auto)
    | (apply Q_calld (q2); exact EvD.auto)); exact rfl)
          | refine SX.Alloc TYok (h := ?_)
          | refine SX.Store TYok (h := ?_)
          | refine SX.Make TYok (h := ?_)
          | (apply S_mapUpdate TYok KSt (vc := cellBl) (v := true); exact Ev.auto; exact rfl; exact Ev.auto; exact Ev.auto; exact rfl; exact rfl; exact rfl)
          | (apply RG.gT; exact rfl; exact rfl; (first | assumption | decide))
          | (apply RG.gF; exact rfl; exact rfl; (first | assumption | decide | (rw [ne_eq, Bool.not_eq_true]; assumption) | (rw [ne_eq, Bool.not_eq_false]; assumption)); exact rfl)
          | (refine W.condA (ht := fun hb => ?_) (hf := fun hb => ?_) <;> (try simp at hb) <;> (try (exfalso; omega))))
        · refine ⟨(k + 1, m.set k false, mput M (nth o k).issuer true), ⟨by omega, hlen, hn, k4.put fun s => by rw [failS_succ, hbk, Bool.true_and, Bool.or_comm]⟩, ?_, ?_⟩
          · exact Le.auto
          · (try simp only); omega
        · exfalso
          simp [hset] at hb
      | false =>
        have hfs : ∀ s, failS o f y t (k + 1) s = failS o f y t k s := fun s => by rw [failS_succ, hbk, Bool.false_and, Bool.or_false]
        have k4' : Holds M (failS o f y t (k + 1)) := fun s => by rw [hfs]; exact k4 s
        repeat' (first
          | apply RG.nil
          | apply Lex.nil
          | apply Then.n
          | apply Then.r
          | apply Then.x
          | apply InBlock.n
          | apply InBlock.r
          | apply InBlock.hit
          | (apply InBlock.miss; exact rfl)
          | apply W.seq
          | apply W.region
          | apply W.block
          | apply W.skip
          | apply W.ret
          | apply W.exit
          | (apply W.draw2 (id := 9) [0, 0, 0, 0, 0, 24, 56, 0, 0, 384, 896, 0, 0, 6144, 14336, 32764, 65535, 131071] [[11], [13], [14], [1], [13], [39, 40], [41], [2], [13], [43, 44], [45], [3], [13], [47, 48], [49], [38, 42, 46, 50], [36, 37]] 17 [(36, 2048), (37, 8192), (38, 16384), (39, 2), (40, 8192), (41, 1649267441664), (42, 2199023255552), (43, 4), (44, 8192), (45, 26388279066624), (46, 35184372088832), (47, 8), (48, 8192), (49, 422212465065984), (50, 562949953421312), (51, 1200941575438336), (52, 206158430208)] mixed (by kernel_rfl) rfl rfl)
          | (apply W.draw2 (id := 10) [0, 0, 0, 6, 14, 31, 63, 127, 127, 511, 1023, 2047, 4095] [[14], [1], [13], [54, 55], [56], [53, 57], [58], [11, 59], [13, 59], [60, 61, 59], [62, 59], [63, 59], [59, 64]] 13 [(53, 16384), (54, 2), (55, 8192), (56, 54043195528445952), (57, 72057594037927936), (58, 153122387330596864), (59, 288230376151711744), (60, 576460752303425536), (61, 576460752303431680), (62, 4035225266123964416), (63, 5188146770730811392), (64, 9799832789158199296), (65, 19023204826012975104)] mixed (by kernel_rfl) rfl rfl)
          | (apply W.draw2 (id := 16) [0, 0, 0, 6, 14, 31, 63, 127, 127, 383, 1023, 2047] [[16], [1], [15], [78, 79], [80], [77, 81], [82], [12, 83], [16, 83], [85, 83], [84, 86, 83], [83, 87]] 12 [(77, 65536), (78, 2), (79, 32768), (80, 906694364710971881029632), (81, 1208925819614629174706176), (82, 2568967366681086996250624), (83, 4835703278458516698824704), (84, 9671406556917033397653504), (85, 9671406556917033397714944), (86, 48357032784585166988247040), (87, 106385472126087367374143488), (88, 164413911467589567760039936)] mixed (by kernel_rfl) rfl rfl)
          | ((first | apply U_ | (apply Ug_; exact rfl; exact rfl) | (apply Ugq_; exact rfl; exact rfl) | apply Lex.u | (apply Lex.g; exact rfl; exact rfl) | (apply Lex.gq; exact rfl; exact rfl)); (first
    | exact QX.Move TYok
    | exact QX.Asg TYok
    | exact QX.Fld TYok
    | exact QX.Ld TYok
    | exact QX.Bin TYok
    | exact QX.Pick TYok
    | exact QX.Un TYok
    | exact QX.Len TYok
    | exact QX.Idx TYok
    | (apply Q_calld (q1); exact EvD.auto)
    | (apply Q_calld (q2); exact EvD.auto)); exact rfl)
          | refine SX.Alloc TYok (h := ?_)
          | refine SX.Store TYok (h := ?_)
          | refine SX.Make TYok (h := ?_)
          | (apply S_mapUpdate TYok KSt (vc := cellBl) (v := true); exact Ev.auto; exact rfl; exact Ev.auto; exact Ev.auto; exact rfl; exact rfl; exact rfl)
          | (apply RG.gT; exact rfl; exact rfl; (first | assumption | decide))
          | (apply RG.gF; exact rfl; exact rfl; (first | assumption | decide | (rw [ne_eq, Bool.not_eq_true]; assumption) | (rw [ne_eq, Bool.not_eq_false]; assumption)); exact rfl)
          | (refine W.condA (ht := fun hb => ?_) (hf := fun hb => ?_) <;> (try simp at hb) <;> (try (exfalso; omega))))
        · exfalso
          simp [hset] at hb
          simp [badK, resK, gotK, hb] at hbk
        · refine ⟨(k + 1, m.set k (gotF (nth o k) (nth f k) (nth y k) (nth t k)), M), ⟨by omega, hlen, hn, k4'⟩, ?_, ?_⟩
          · exact Le.auto
          · (try simp only); omega
    · obtain rfl : k = o.length := by omega
      repeat' (first
        | apply RG.nil
        | apply Lex.nil
        | apply Then.n
        | apply Then.r
        | apply Then.x
        | apply InBlock.n
        | apply InBlock.r
        | apply InBlock.hit
        | (apply InBlock.miss; exact rfl)
        | apply W.seq
        | apply W.region
        | apply W.block
        | apply W.skip
        | apply W.ret
        | apply W.exit
        | (apply W.draw2 (id := 9) [0, 0, 0, 0, 0, 24, 56, 0, 0, 384, 896, 0, 0, 6144, 14336, 32764, 65535, 131071] [[11], [13], [14], [1], [13], [39, 40], [41], [2], [13], [43, 44], [45], [3], [13], [47, 48], [49], [38, 42, 46, 50], [36, 37]] 17 [(36, 2048), (37, 8192), (38, 16384), (39, 2), (40, 8192), (41, 1649267441664), (42, 2199023255552), (43, 4), (44, 8192), (45, 26388279066624), (46, 35184372088832), (47, 8), (48, 8192), (49, 422212465065984), (50, 562949953421312), (51, 1200941575438336), (52, 206158430208)] mixed (by kernel_rfl) rfl rfl)
        | (apply W.draw2 (id := 10) [0, 0, 0, 6, 14, 31, 63, 127, 127, 511, 1023, 2047, 4095] [[14], [1], [13], [54, 55], [56], [53, 57], [58], [11, 59], [13, 59], [60, 61, 59], [62, 59], [63, 59], [59, 64]] 13 [(53, 16384), (54, 2), (55, 8192), (56, 54043195528445952), (57, 72057594037927936), (58, 153122387330596864), (59, 288230376151711744), (60, 576460752303425536), (61, 576460752303431680), (62, 4035225266123964416), (63, 5188146770730811392), (64, 9799832789158199296), (65, 19023204826012975104)] mixed (by kernel_rfl) rfl rfl)
        | (apply W.draw2 (id := 16) [0, 0, 0, 6, 14, 31, 63, 127, 127, 383, 1023, 2047] [[16], [1], [15], [78, 79], [80], [77, 81], [82], [12, 83], [16, 83], [85, 83], [84, 86, 83], [83, 87]] 12 [(77, 65536), (78, 2), (79, 32768), (80, 906694364710971881029632), (81, 1208925819614629174706176), (82, 2568967366681086996250624), (83, 4835703278458516698824704), (84, 9671406556917033397653504), (85, 9671406556917033397714944), (86, 48357032784585166988247040), (87, 106385472126087367374143488), (88, 164413911467589567760039936)] mixed (by kernel_rfl) rfl rfl)
        | ((first | apply U_ | (apply Ug_; exact rfl; exact rfl) | (apply Ugq_; exact rfl; exact rfl) | apply Lex.u | (apply Lex.g; exact rfl; exact rfl) | (apply Lex.gq; exact rfl; exact rfl)); (first
    | exact QX.Move TYok
    | exact QX.Asg TYok
    | exact QX.Fld TYok
    | exact QX.Ld TYok
    | exact QX.Bin TYok
    | exact QX.Pick TYok
    | exact QX.Un TYok
    | exact QX.Len TYok
    | exact QX.Idx TYok); exact rfl)
        | refine SX.Alloc TYok (h := ?_)
        | refine SX.Store TYok (h := ?_)
        | refine SX.Make TYok (h := ?_)
        | (apply RG.gT; exact rfl; exact rfl; (first | assumption | decide))
        | (apply RG.gF; exact rfl; exact rfl; (first | assumption | decide | (rw [ne_eq, Bool.not_eq_true]; assumption) | (rw [ne_eq, Bool.not_eq_false]; assumption)); exact rfl)
        | (refine W.condA (ht := fun hb => ?_) (hf := fun hb => ?_) <;> (try simp at hb) <;> (try (exfalso; omega))))
      apply W.loopP (σ := Nat × List Bool) 94 [1, 70, 71] (fun (k, m) => k ≤ o.length ∧ m.length = o.length ∧ (∀ j, j < o.length → nth m j = if j < k then outK o f y t j else gotK o f y t j)) (fun (k, m) => [(11, (True, .slc 27)), (12, (True, .mp 28)), (72, vI k)]) (fun (k, m) => [(27, ⟨4, 1, m.map encB⟩), (28, ⟨mapTag, 0, M.map (mrow kS cellBl)⟩)]) (fun (k, m) => o.length - k) ((0, m))
      case hp => repeat (first | exact Pick.nil | apply Pick.cons rfl)
      case h0 =>
        refine ⟨⟨by simp, k2, fun j hj => by rw [if_neg (by omega)]; exact k3 j hj⟩, ?_⟩
        exact Le.auto
      case round =>
        clear k3 k2 m
        rintro ⟨k, m⟩ ⟨k1, k2, k3⟩
        apply W.norm (by repeat (first | exact App.nil | apply App.cons))
        dsimp only
        by_cases hk : k < o.length
        · have q2 := reserved_ok38 (nth o k) (nth f k) (h.ok _ (nth_mem hk)) (h.ok' _ (nth_mem (by omega)))
          have step : ∀ v, v = outK o f y t k → ∀ j, j < o.length → nth (m.set k v) j = if j < k + 1 then outK o f y t j else gotK o f y t j := fun v hv j hj => by
            rw [nth_setB (by omega)]
            by_cases e : j = k
            · subst e; rw [if_pos rfl, if_pos (by omega)]; exact hv
            · rw [if_neg e, k3 j hj]
              by_cases e2 : j < k
              · rw [if_pos e2, if_pos (by omega)]
              · rw [if_neg e2, if_neg (by omega)]
          have skip : gotK o f y t k = outK o f y t k → ∀ j, j < o.length → nth m j = if j < k + 1 then outK o f y t j else gotK o f y t j := fun hv j hj => by
            rw [k3 j hj]
            by_cases e : j = k
            · subst e; rw [if_neg (by omega), if_pos (by omega)]; exact hv
            · by_cases e2 : j < k
              · rw [if_pos e2, if_pos (by omega)]
              · rw [if_neg e2, if_neg (by omega)]
          cases hf : failS o f y t o.length (nth o k).issuer with
          | true =>
            have hg : mget M (nth o k).issuer = some true := by rw [k4, if_pos hf]
            repeat' (first
              | apply RG.nil
              | apply Lex.nil
              | apply Then.n
              | apply Then.r
              | apply Then.x
              | apply InBlock.n
              | apply InBlock.r
              | apply InBlock.hit
              | (apply InBlock.miss; exact rfl)
              | apply W.seq
              | apply W.region
              | apply W.block
              | apply W.skip
              | apply W.ret
              | apply W.exit
              | (apply W.draw2 (id := 9) [0, 0, 0, 0, 0, 24, 56, 0, 0, 384, 896, 0, 0, 6144, 14336, 32764, 65535, 131071] [[11], [13], [14], [1], [13], [39, 40], [41], [2], [13], [43, 44], [45], [3], [13], [47, 48], [49], [38, 42, 46, 50], [36, 37]] 17 [(36, 2048), (37, 8192), (38, 16384), (39, 2), (40, 8192), (41, 1649267441664), (42, 2199023255552), (43, 4), (44, 8192), (45, 26388279066624), (46, 35184372088832), (47, 8), (48, 8192), (49, 422212465065984), (50, 562949953421312), (51, 1200941575438336), (52, 206158430208)] mixed (by kernel_rfl) rfl rfl)
              | (apply W.draw2 (id := 10) [0, 0, 0, 6, 14, 31, 63, 127, 127, 511, 1023, 2047, 4095] [[14], [1], [13], [54, 55], [56], [53, 57], [58], [11, 59], [13, 59], [60, 61, 59], [62, 59], [63, 59], [59, 64]] 13 [(53, 16384), (54, 2), (55, 8192), (56, 54043195528445952), (57, 72057594037927936), (58, 153122387330596864), (59, 288230376151711744), (60, 576460752303425536), (61, 576460752303431680), (62, 4035225266123964416), (63, 5188146770730811392), (64, 9799832789158199296), (65, 19023204826012975104)] mixed (by kernel_rfl) rfl rfl)
              | (apply W.draw2 (id := 16) [0, 0, 0, 6, 14, 31, 63, 127, 127, 383, 1023, 2047] [[16], [1], [15], [78, 79], [80], [77, 81], [82], [12, 83], [16, 83], [85, 83], [84, 86, 83], [83, 87]] 12 [(77, 65536), (78, 2), (79, 32768), (80, 906694364710971881029632), (81, 1208925819614629174706176), (82, 2568967366681086996250624), (83, 4835703278458516698824704), (84, 9671406556917033397653504), (85, 9671406556917033397714944), (86, 48357032784585166988247040), (87, 106385472126087367374143488), (88, 164413911467589567760039936)] mixed (by kernel_rfl) rfl rfl)
              | ((first | apply U_ | (apply Ug_; exact rfl; exact rfl) | (apply Ugq_; exact rfl; exact rfl) | apply Lex.u | (apply Lex.g; exact rfl; exact rfl) | (apply Lex.gq; exact rfl; exact rfl)); (first
    | exact QX.Move TYok
    | exact QX.Asg TYok
    | exact QX.Fld TYok
    | exact QX.Ld TYok
    | exact QX.Bin TYok
    | exact QX.Pick TYok
    | exact QX.Un TYok
    | exact QX.Len TYok
    | exact QX.Idx TYok
    | (apply Q_calld (q2); exact EvD.auto)
    | (apply Q_lookup TYok KSt (vc := cellBl); exact Ev.auto; exact rfl; exact Ev.auto; exact rfl; exact rfl; exact rfl; (rw [hg]))); exact rfl)
              | refine SX.Alloc TYok (h := ?_)
              | refine SX.Store TYok (h := ?_)
              | refine SX.Make TYok (h := ?_)
              | (apply RG.gT; exact rfl; exact rfl; (first | assumption | decide))
              | (apply RG.gF; exact rfl; exact rfl; (first | assumption | decide | (rw [ne_eq, Bool.not_eq_true]; assumption) | (rw [ne_eq, Bool.not_eq_false]; assumption)); exact rfl)
              | (refine W.condA (ht := fun hb => ?_) (hf := fun hb => ?_) <;> (try simp at hb) <;> (try (exfalso; omega))))
            · refine ⟨(k + 1, m.set k false), ⟨by omega, by rw [List.length_set]; exact k2, step false ?_⟩, ?_, ?_⟩
              · rw [outK, hf, resK, hb]; simp
              · exact Le.auto
              · (try simp only); omega
            · refine ⟨(k + 1, m), ⟨by omega, k2, skip ?_⟩, ?_, ?_⟩
              · rw [outK, resK, hb]; simp
              · exact Le.auto
              · (try simp only); omega
          | false =>
            have hg : mget M (nth o k).issuer = none := by rw [k4, if_neg (by rw [hf]; decide)]
            repeat' (first
              | apply RG.nil
              | apply Lex.nil
              | apply Then.n
              | apply Then.r
              | apply Then.x
              | apply InBlock.n
              | apply InBlock.r
              | apply InBlock.hit
              | (apply InBlock.miss; exact rfl)
              | apply W.seq
              | apply W.region
              | apply W.block
              | apply W.skip
              | apply W.ret
              | apply W.exit
              | (apply W.draw2 (id := 9) [0, 0, 0, 0, 0, 24, 56, 0, 0, 384, 896, 0, 0, 6144, 14336, 32764, 65535, 131071] [[11], [13], [14], [1], [13], [39, 40], [41], [2], [13], [43, 44], [45], [3], [13], [47, 48], [49], [38, 42, 46, 50], [36, 37]] 17 [(36, 2048), (37, 8192), (38, 16384), (39, 2), (40, 8192), (41, 1649267441664), (42, 2199023255552), (43, 4), (44, 8192), (45, 26388279066624), (46, 35184372088832), (47, 8), (48, 8192), (49, 422212465065984), (50, 562949953421312), (51, 1200941575438336), (52, 206158430208)] mixed (by kernel_rfl) rfl rfl)
              | (apply W.draw2 (id := 10) [0, 0, 0, 6, 14, 31, 63, 127, 127, 511, 1023, 2047, 4095] [[14], [1], [13], [54, 55], [56], [53, 57], [58], [11, 59], [13, 59], [60, 61, 59], [62, 59], [63, 59], [59, 64]] 13 [(53, 16384), (54, 2), (55, 8192), (56, 54043195528445952), (57, 72057594037927936), (58, 153122387330596864), (59, 288230376151711744), (60, 576460752303425536), (61, 576460752303431680), (62, 4035225266123964416), (63, 5188146770730811392), (64, 9799832789158199296), (65, 19023204826012975104)] mixed (by kernel_rfl) rfl rfl)
              | (apply W.draw2 (id := 16) [0, 0, 0, 6, 14, 31, 63, 127, 127, 383, 1023, 2047] [[16], [1], [15], [78, 79], [80], [77, 81], [82], [12, 83], [16, 83], [85, 83], [84, 86, 83], [83, 87]] 12 [(77, 65536), (78, 2), (79, 32768), (80, 906694364710971881029632), (81, 1208925819614629174706176), (82, 2568967366681086996250624), (83, 4835703278458516698824704), (84, 9671406556917033397653504), (85, 9671406556917033397714944), (86, 48357032784585166988247040), (87, 106385472126087367374143488), (88, 164413911467589567760039936)] mixed (by kernel_rfl) rfl rfl)
              | ((first | apply U_ | (apply Ug_; exact rfl; exact rfl) | (apply Ugq_; exact rfl; exact rfl) | apply Lex.u | (apply Lex.g; exact rfl; exact rfl) | (apply Lex.gq; exact rfl; exact rfl)); (first
    | exact QX.Move TYok
    | exact QX.Asg TYok
    | exact QX.Fld TYok
    | exact QX.Ld TYok
    | exact QX.Bin TYok
    | exact QX.Pick TYok
    | exact QX.Un TYok
    | exact QX.Len TYok
    | exact QX.Idx TYok
    | (apply Q_calld (q2); exact EvD.auto)
    | (apply Q_lookup TYok KSt (vc := cellBl); exact Ev.auto; exact rfl; exact Ev.auto; exact rfl; exact rfl; exact rfl; (rw [hg]))); exact rfl)
              | refine SX.Alloc TYok (h := ?_)
              | refine SX.Store TYok (h := ?_)
              | refine SX.Make TYok (h := ?_)
              | (apply RG.gT; exact rfl; exact rfl; (first | assumption | decide))
              | (apply RG.gF; exact rfl; exact rfl; (first | assumption | decide | (rw [ne_eq, Bool.not_eq_true]; assumption) | (rw [ne_eq, Bool.not_eq_false]; assumption)); exact rfl)
              | (refine W.condA (ht := fun hb => ?_) (hf := fun hb => ?_) <;> (try simp at hb) <;> (try (exfalso; omega))))
            refine ⟨(k + 1, m), ⟨by omega, k2, skip ?_⟩, ?_, ?_⟩
            · rw [outK, hf]; simp
            · exact Le.auto
            · (try simp only); omega
        · obtain rfl : k = o.length := by omega
          have e2 : m = bindsL o f y t := ext_nthB (by rw [k2]; simp [bindsL]) fun j hj => by
            rw [bindsL, nth_rangeB (by omega), k3 j (by omega), if_pos (by omega)]
          subst e2
          repeat' (first
            | apply RG.nil
            | apply Lex.nil
            | apply Then.n
            | apply Then.r
            | apply Then.x
            | apply InBlock.n
            | apply InBlock.r
            | apply InBlock.hit
            | (apply InBlock.miss; exact rfl)
            | apply W.seq
            | apply W.region
            | apply W.block
            | apply W.skip
            | apply W.ret
            | apply W.exit
            | (apply W.draw2 (id := 9) [0, 0, 0, 0, 0, 24, 56, 0, 0, 384, 896, 0, 0, 6144, 14336, 32764, 65535, 131071] [[11], [13], [14], [1], [13], [39, 40], [41], [2], [13], [43, 44], [45], [3], [13], [47, 48], [49], [38, 42, 46, 50], [36, 37]] 17 [(36, 2048), (37, 8192), (38, 16384), (39, 2), (40, 8192), (41, 1649267441664), (42, 2199023255552), (43, 4), (44, 8192), (45, 26388279066624), (46, 35184372088832), (47, 8), (48, 8192), (49, 422212465065984), (50, 562949953421312), (51, 1200941575438336), (52, 206158430208)] mixed (by kernel_rfl) rfl rfl)
            | (apply W.draw2 (id := 10) [0, 0, 0, 6, 14, 31, 63, 127, 127, 511, 1023, 2047, 4095] [[14], [1], [13], [54, 55], [56], [53, 57], [58], [11, 59], [13, 59], [60, 61, 59], [62, 59], [63, 59], [59, 64]] 13 [(53, 16384), (54, 2), (55, 8192), (56, 54043195528445952), (57, 72057594037927936), (58, 153122387330596864), (59, 288230376151711744), (60, 576460752303425536), (61, 576460752303431680), (62, 4035225266123964416), (63, 5188146770730811392), (64, 9799832789158199296), (65, 19023204826012975104)] mixed (by kernel_rfl) rfl rfl)
            | (apply W.draw2 (id := 16) [0, 0, 0, 6, 14, 31, 63, 127, 127, 383, 1023, 2047] [[16], [1], [15], [78, 79], [80], [77, 81], [82], [12, 83], [16, 83], [85, 83], [84, 86, 83], [83, 87]] 12 [(77, 65536), (78, 2), (79, 32768), (80, 906694364710971881029632), (81, 1208925819614629174706176), (82, 2568967366681086996250624), (83, 4835703278458516698824704), (84, 9671406556917033397653504), (85, 9671406556917033397714944), (86, 48357032784585166988247040), (87, 106385472126087367374143488), (88, 164413911467589567760039936)] mixed (by kernel_rfl) rfl rfl)
            | ((first | apply U_ | (apply Ug_; exact rfl; exact rfl) | (apply Ugq_; exact rfl; exact rfl) | apply Lex.u | (apply Lex.g; exact rfl; exact rfl) | (apply Lex.gq; exact rfl; exact rfl)); (first
    | exact QX.Move TYok
    | exact QX.Asg TYok
    | exact QX.Fld TYok
    | exact QX.Ld TYok
    | exact QX.Bin TYok
    | exact QX.Pick TYok
    | exact QX.Un TYok
    | exact QX.Len TYok
    | exact QX.Idx TYok); exact rfl)
            | refine SX.Alloc TYok (h := ?_)
            | refine SX.Store TYok (h := ?_)
            | refine SX.Make TYok (h := ?_)
            | (apply RG.gT; exact rfl; exact rfl; (first | assumption | decide))
            | (apply RG.gF; exact rfl; exact rfl; (first | assumption | decide | (rw [ne_eq, Bool.not_eq_true]; assumption) | (rw [ne_eq, Bool.not_eq_false]; assumption)); exact rfl)
            | (refine W.condA (ht := fun hb => ?_) (hf := fun hb => ?_) <;> (try simp at hb) <;> (try (exfalso; omega))))
          exact Fin.ret ResL.auto
end Go.Proofs.Ytionjeodcmnneaa
