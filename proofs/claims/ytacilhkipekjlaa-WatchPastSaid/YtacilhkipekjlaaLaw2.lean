/-
  The laws of past and dual
-/
import Derived.Test.YtacilhkipekjlaaLaw
set_option linter.unusedVariables false
set_option linter.unusedSimpArgs false
set_option maxHeartbeats 8000000
namespace Go.Proofs.Ytacilhkipekjlaa
open Lf Go
attribute [local irreducible] PureOp EffOp Ev RG W Then InBlock Lf.Fin nth App InitE Pick SubE SubF SubG EvL EvD EvP EvR ResL Lf.Lex SubR SubBR RA RAll EvC FinO FinM ResM FinB ResD

/-! ### no later day: the plain law -/
mutual
def comingF : Exp → Bool
  | .mk op n u s l => decide (op = 18) || comingFs l
def comingFs : List Exp → Bool
  | [] => false
  | e :: r => comingF e || comingFs r
end
theorem comingFs_mem : ∀ {l : List Exp}, comingFs l = false → ∀ x ∈ l, comingF x = false
  | [], _, x, hx => by cases hx
  | e :: r, h, x, hx => by
    rw [comingFs, Bool.or_eq_false_iff] at h
    rcases List.mem_cons.1 hx with rfl | hx
    · exact h.1
    · exact comingFs_mem h.2 x hx
theorem comingFs_any : ∀ l : List Exp, comingFs l = l.any comingF
  | [] => rfl
  | e :: r => by rw [comingFs, List.any_cons, comingFs_any r]
theorem nth_short {ts : List (List Int)} {n i : Nat} (h : i < ts.length) : nth (shortF ts n) i = (nth ts i).take n := by
  rw [shortF, nth_eq (by simpa using h), nth_eq h, List.getElem_map]
theorem map_short {ts : List (List Int)} {n d : Nat} (h : d < n) : ((shortF ts n).map fun r => nth r d) = ts.map fun r => nth r d := by
  rw [shortF, List.map_map]
  exact List.map_congr_left fun r _ => nth_take h
theorem win_short {r : List Int} {n d : Nat} {days lo : Int} (hd : d < n) (hn : (n : Int) ≤ days) : winF (r.take n) n lo d = winF r days lo d := by
  unfold winF
  rw [if_neg (by omega), if_neg (by omega)]
  congr 1
  rw [List.drop_take, List.take_take]
  by_cases h : max lo 0 ≤ n
  · congr 1
    · omega
    · congr 1; omega
  · rw [show min ((min (max ((d : Int) + 1) (max lo 0)) (n : Int)).toNat - (min (max lo 0) (n : Int)).toNat) (n - (min (max lo 0) (n : Int)).toNat) = 0 by omega, show (min (max ((d : Int) + 1) (max lo 0)) days).toNat - (min (max lo 0) days).toNat = 0 by omega]
    simp
theorem valF_short {op N days : Int} {n d : Nat} {args : List (List Int)} (ho : op = 12 ∨ op = 13 ∨ op = 14 ∨ op = 16 ∨ op = 17) (hd : d < n) (hn : (n : Int) ≤ days) (h1 : 1 ≤ args.length) : valF n op N (shortF args n) d = valF days op N args d := by
  unfold valF
  rw [map_short hd, nth_short (by omega), win_short hd hn]
  by_cases c1 : op = 12
  · rw [if_pos c1, if_pos c1]
  rw [if_neg c1, if_neg c1]
  by_cases c2 : op = 13
  · rw [if_pos c2, if_pos c2]
  rw [if_neg c2, if_neg c2]
  by_cases c3 : op = 14
  · rw [if_pos c3, if_pos c3]
  rw [if_neg c3, if_neg c3]
  by_cases c4 : op = 16
  · rw [if_pos c4, if_pos c4]
  rw [if_neg c4, if_neg c4, if_pos (by omega), if_pos (by omega)]
theorem short_drop (ts : List (List Int)) (n k : Nat) : (shortF ts n).drop k = shortF (ts.drop k) n := by simp [shortF, List.map_drop]
mutual
theorem nodeF_short {days : Int} {n : Nat} (hn : (n : Int) ≤ days) : ∀ (d : Nat) (e : Exp) (ts : List (List Int)), rightF d e = true → comingF e = false → (listF e).length ≤ ts.length → nodeF n e (shortF ts n) = (nodeF days e ts).take n
  | 0, .mk op n u s l, ts, hr, _, _ => by simp [rightF] at hr
  | d + 1, .mk op N u s l, ts, hr, hc, hl => by
    rw [comingF, Bool.or_eq_false_iff, decide_eq_false_iff_not] at hc
    rw [nodeF, nodeF]
    cases hf : framedF op with
    | false =>
      rw [listF, hf] at hl
      simp at hl ⊢
      exact nth_short hl
    | true =>
      obtain ⟨g1, g2, g3, g4, g5, g6⟩ := right_framed hr hf
      rw [listF, hf] at hl
      simp only [if_true] at hl ⊢
      have hA := nodesF_short hn d l ts g3 hc.2 hl
      rw [hA]
      refine ext_nth (by simp; omega) fun k hk => ?_
      simp only [List.length_map, List.length_range] at hk
      rw [nth_days hk, nth_take (by omega), nth_days (by omega)]
      exact valF_short (by omega) (by omega) hn (by rw [nodesF_len]; exact g1)
theorem nodesF_short {days : Int} {n : Nat} (hn : (n : Int) ≤ days) : ∀ (d : Nat) (l : List Exp) (ts : List (List Int)), (∀ x ∈ l, rightF d x = true) → comingFs l = false → (listFs l).length ≤ ts.length → nodesF n l (shortF ts n) = shortF (nodesF days l ts) n
  | d, [], ts, _, _, _ => rfl
  | d, e :: r, ts, hr, hc, hl => by
    rw [comingFs, Bool.or_eq_false_iff] at hc
    rw [listFs, List.length_append] at hl
    rw [nodesF, nodesF, nodeF_short hn d e ts (hr e (by simp)) hc.1 (by omega), short_drop, nodesF_short hn d r _ (fun x hx => hr x (List.mem_cons_of_mem _ hx)) hc.2 (by simp; omega)]
    rfl
end
/-! ### nothing open -/
theorem notF_no {x : Int} (h : x ≠ 2) : notF x ≠ 2 := by unfold notF; (repeat' split) <;> omega
theorem allF_no {l : List Int} (h : (2 : Int) ∉ l) : allF l ≠ 2 := by
  unfold allF
  rw [if_neg h]
  split <;> decide
theorem someF_no {l : List Int} (h : (2 : Int) ∉ l) : someF l ≠ 2 := by
  unfold someF
  refine notF_no (allF_no fun q => ?_)
  obtain ⟨y, hy, e⟩ := List.mem_map.1 q
  by_cases hy2 : y = 2
  · subst hy2; exact h hy
  · exact notF_no hy2 e
theorem win_no {r : List Int} {lo : Int} {d : Nat} {days : Int} (hr : (r.length : Int) = days) (hd : (d : Int) < days) (h : (2 : Int) ∉ r) : (2 : Int) ∉ winF r days lo d := by
  subst hr
  intro q
  rcases mem_win.1 q with ⟨k, _, _, h3, e⟩ | ⟨h1, _⟩
  · exact h (by rw [← e]; exact nth_mem h3)
  · omega
def No2 (ts : List (List Int)) : Prop := ∀ r ∈ ts, (2 : Int) ∉ r
theorem No2.drop {ts : List (List Int)} (h : No2 ts) (k : Nat) : No2 (ts.drop k) := fun r hr => h r (List.mem_of_mem_drop hr)
theorem map_no {args : List (List Int)} {d : Nat} (h : No2 args) (hd : ∀ r ∈ args, d < r.length) : (2 : Int) ∉ args.map fun r => nth r d := by
  intro q
  obtain ⟨r, hr, e⟩ := List.mem_map.1 q
  exact h r hr (by rw [← e]; exact nth_mem (hd r hr))
theorem valF_no {op N days : Int} {d : Nat} {args : List (List Int)} (ho : op = 12 ∨ op = 13 ∨ op = 14 ∨ op = 16 ∨ op = 17) (hd : (d : Int) < days) (hR : Rows days args) (h : No2 args) (h1 : 1 ≤ args.length) : valF days op N args d ≠ 2 := by
  have hlt : ∀ r ∈ args, d < r.length := fun r hr => by have := hR r hr; omega
  have hm := map_no h hlt
  have q0 := hR _ (nth_mem (l := args) (k := 0) (by omega))
  have w0 := h _ (nth_mem (l := args) (k := 0) (by omega))
  have hw : ∀ lo : Int, (2 : Int) ∉ winF (nth args 0) days lo d := fun lo => win_no q0 hd w0
  unfold valF
  by_cases c1 : op = 12
  · rw [if_pos c1, nth_map (by omega)]
    exact notF_no fun q => w0 (by rw [← q]; exact nth_mem (hlt _ (nth_mem (by omega))))
  rw [if_neg c1]
  by_cases c2 : op = 13
  · rw [if_pos c2]; exact allF_no hm
  rw [if_neg c2]
  by_cases c3 : op = 14
  · rw [if_pos c3]; exact someF_no hm
  rw [if_neg c3]
  by_cases c4 : op = 16
  · rw [if_pos c4]; exact someF_no (hw _)
  rw [if_neg c4, if_pos (by omega)]
  exact allF_no (hw _)
mutual
theorem nodeF_no {days : Int} (h0 : 0 ≤ days) : ∀ (d : Nat) (e : Exp) (ts : List (List Int)), rightF d e = true → comingF e = false → Rows days ts → No2 ts → (listF e).length ≤ ts.length → (2 : Int) ∉ nodeF days e ts
  | 0, .mk op n u s l, ts, hr, _, _, _, _ => by simp [rightF] at hr
  | d + 1, .mk op N u s l, ts, hr, hc, hR, hN, hl => by
    rw [comingF, Bool.or_eq_false_iff, decide_eq_false_iff_not] at hc
    rw [nodeF]
    cases hf : framedF op with
    | false =>
      rw [listF, hf] at hl
      simp at hl ⊢
      exact hN _ (nth_mem hl)
    | true =>
      obtain ⟨g1, g2, g3, g4, g5, g6⟩ := right_framed hr hf
      rw [listF, hf] at hl
      simp only [if_true] at hl ⊢
      have hA := nodesF_no h0 d l ts g3 hc.2 hR hN hl
      have hRR : Rows days (nodesF days l ts) := nodesF_rows h0 hR hl
      intro q
      obtain ⟨k, hk, e⟩ := List.mem_map.1 q
      have hk := List.mem_range.1 hk
      exact valF_no (by omega) (by omega) hRR hA (by rw [nodesF_len]; exact g1) e
theorem nodesF_no {days : Int} (h0 : 0 ≤ days) : ∀ (d : Nat) (l : List Exp) (ts : List (List Int)), (∀ x ∈ l, rightF d x = true) → comingFs l = false → Rows days ts → No2 ts → (listFs l).length ≤ ts.length → No2 (nodesF days l ts)
  | d, [], ts, _, _, _, _, _ => fun r hr => by simp [nodesF] at hr
  | d, e :: r, ts, hr, hc, hR, hN, hl => by
    rw [comingFs, Bool.or_eq_false_iff] at hc
    rw [listFs, List.length_append] at hl
    intro x hx
    rw [nodesF] at hx
    rcases List.mem_cons.1 hx with rfl | hx
    · exact nodeF_no h0 d e ts (hr e (by simp)) hc.1 hR hN (by omega)
    · exact nodesF_no h0 d r _ (fun x hx => hr x (List.mem_cons_of_mem _ hx)) hc.2 (hR.drop _) (hN.drop _) (by simp; omega) x hx
end
/-! ### the negation of ever is long of the negation -/
theorem notF_notF (x : Int) : notF (notF x) = x := by unfold notF; (repeat' split) <;> omega
theorem win_not (r : List Int) (days lo hi : Int) : (winF r days lo hi).map notF = winF (r.map notF) days lo hi := by
  unfold winF
  rw [List.map_append, List.map_take, List.map_drop]
  congr 1
  split <;> rfl
theorem some_not (l : List Int) : notF (someF l) = allF (l.map notF) := by rw [someF, notF_notF]
theorem nodeF_over {op n days : Int} {e : Exp} {ts : List (List Int)} (hf : framedF op = true) : nodeF days (overE op n e) ts = (List.range days.toNat).map (valF days op n [nodeF days e ts]) := by
  rw [overE, nodeF, if_pos hf, nodesF, nodesF]
theorem listF_over {op n : Int} {e : Exp} (hf : framedF op = true) : listF (overE op n e) = listF e := by
  rw [overE, listF, if_pos hf, listFs, listFs, List.append_nil]
theorem valF_not {days : Int} {r : List Int} {d : Nat} : valF days 12 0 [r] d = notF (nth r d) := by
  unfold valF; rw [if_pos rfl]; simp [nth]
theorem valF_ever {days k : Int} {r : List Int} {d : Nat} : valF days 16 k [r] d = someF (winF r days ((d : Int) - k + 1) d) := by
  unfold valF; rw [if_neg (by decide), if_neg (by decide), if_neg (by decide), if_pos rfl]; simp [nth]
theorem valF_long {days k : Int} {r : List Int} {d : Nat} : valF days 17 k [r] d = allF (winF r days ((d : Int) - k + 1) d) := by
  unfold valF; rw [if_neg (by decide), if_neg (by decide), if_neg (by decide), if_neg (by decide), if_pos rfl]; simp [nth]
theorem valF_soon {days k : Int} {r : List Int} {d : Nat} : valF days 18 k [r] d = someF (winF r days d ((d : Int) + k - 1)) := by
  unfold valF; rw [if_neg (by decide), if_neg (by decide), if_neg (by decide), if_neg (by decide), if_neg (by decide)]; simp [nth]
theorem valF_and {days k : Int} {r s : List Int} {d : Nat} : valF days 13 k [r, s] d = allF [nth r d, nth s d] := by
  unfold valF; rw [if_neg (by decide), if_pos rfl]; simp [nth]
theorem valF_or {days k : Int} {r s : List Int} {d : Nat} : valF days 14 k [r, s] d = someF [nth r d, nth s d] := by
  unfold valF; rw [if_neg (by decide), if_neg (by decide), if_pos rfl]; simp [nth]
theorem nth_mapI {l : List Int} {f : Int → Int} {k : Nat} (h : k < l.length) : nth (l.map f) k = f (nth l k) := by
  rw [nth_eq (by simpa using h), nth_eq h, List.getElem_map]
theorem not_row {days : Int} {r : List Int} (h : (r.length : Int) = days) : (List.range days.toNat).map (valF days 12 0 [r]) = r.map notF := by
  refine ext_nth (by simp; omega) fun k hk => ?_
  simp only [List.length_map, List.length_range] at hk
  rw [nth_days hk, nth_mapI (by omega), valF_not]
theorem nodeF_not {days : Int} {e : Exp} {ts : List (List Int)} (h : ((nodeF days e ts).length : Int) = days) : nodeF days (overE 12 0 e) ts = (nodeF days e ts).map notF := by
  rw [nodeF_over (by decide), not_row h]
theorem dual_ever {days k : Int} {e : Exp} {ts : List (List Int)} (h0 : 0 ≤ days) (h : ((nodeF days e ts).length : Int) = days) : nodeF days (overE 12 0 (overE 16 k e)) ts = nodeF days (overE 17 k (overE 12 0 e)) ts := by
  have h1 : ((nodeF days (overE 16 k e) ts).length : Int) = days := by rw [nodeF_over (by decide)]; simp; omega
  rw [nodeF_not h1, nodeF_over (by decide), nodeF_over (op := 17) (by decide), nodeF_not h, List.map_map]
  refine List.map_congr_left fun d _ => ?_
  rw [Function.comp, valF_ever, valF_long, some_not, win_not]
theorem nth_app0 {ts us : List (List Int)} (h : 0 < ts.length) : nth (ts ++ us) 0 = nth ts 0 := by
  rw [nth_eq (by simp; omega), nth_eq h, List.getElem_append_left h]
mutual
theorem nodeF_app {days : Int} : ∀ (e : Exp) (ts us : List (List Int)), (listF e).length ≤ ts.length → nodeF days e (ts ++ us) = nodeF days e ts
  | .mk op n u s l, ts, us, hl => by
    rw [nodeF, nodeF]
    cases hf : framedF op with
    | false =>
      rw [listF, hf] at hl
      simp at hl ⊢
      exact nth_app0 hl
    | true =>
      rw [listF, hf] at hl
      simp only [if_true] at hl ⊢
      rw [nodesF_app l ts us hl]
theorem nodesF_app {days : Int} : ∀ (l : List Exp) (ts us : List (List Int)), (listFs l).length ≤ ts.length → nodesF days l (ts ++ us) = nodesF days l ts
  | [], ts, us, _ => rfl
  | e :: r, ts, us, hl => by
    rw [listFs, List.length_append] at hl
    rw [nodesF, nodesF, nodeF_app e ts us (by omega), List.drop_append_of_le_length (by omega), nodesF_app r _ us (by simp; omega)]
end
def twoE (op : Int) (e : Exp) : Exp := .mk op 0 0 [] [e, e]
theorem nodeF_two {op days : Int} {e : Exp} {ts : List (List Int)} (hf : framedF op = true) (hl : (listF e).length = ts.length) : nodeF days (twoE op e) (ts ++ ts) = (List.range days.toNat).map (valF days op 0 [nodeF days e ts, nodeF days e ts]) := by
  rw [twoE, nodeF, if_pos hf, nodesF, nodesF, nodesF, nodeF_app _ _ _ (by omega), hl, List.drop_left]
theorem listF_two {op : Int} {e : Exp} (hf : framedF op = true) : listF (twoE op e) = listF e ++ listF e := by
  rw [twoE, listF, if_pos hf, listFs, listFs, listFs, List.append_nil]
theorem dual_two {days : Int} {e : Exp} {ts : List (List Int)} (h0 : 0 ≤ days) (hl : (listF e).length = ts.length) (h : ((nodeF days e ts).length : Int) = days) : nodeF days (overE 12 0 (twoE 13 e)) (ts ++ ts) = nodeF days (twoE 14 (overE 12 0 e)) (ts ++ ts) := by
  have h1 : ((nodeF days (twoE 13 e) (ts ++ ts)).length : Int) = days := by rw [nodeF_two (by decide) hl]; simp; omega
  rw [nodeF_not h1, nodeF_two (by decide) hl, nodeF_two (op := 14) (by decide) (by rw [listF_over (by decide)]; exact hl), nodeF_not h, List.map_map]
  refine List.map_congr_left fun d hd => ?_
  have hd := List.mem_range.1 hd
  rw [Function.comp, valF_and, valF_or, someF, nth_mapI (by omega)]
  simp only [List.map_cons, List.map_nil, notF_notF]
/-! ### one day more -/
theorem someF_one {l : List Int} : someF l = 1 ↔ (1 : Int) ∈ l := by
  have e : someF l = 1 ↔ allF (l.map notF) = 0 := by unfold someF notF; (repeat' split) <;> omega
  rw [e]
  have e2 : (0 : Int) ∈ l.map notF ↔ (1 : Int) ∈ l := by
    constructor
    · intro q
      obtain ⟨y, hy, e⟩ := List.mem_map.1 q
      have : y = 1 := by rw [← notF_notF y, e]; rfl
      exact this ▸ hy
    · intro q; exact List.mem_map.2 ⟨1, q, rfl⟩
  unfold allF
  by_cases h : (0 : Int) ∈ l.map notF
  · rw [if_pos h]; exact ⟨fun _ => e2.1 h, fun _ => rfl⟩
  · rw [if_neg h]
    constructor
    · intro q; split at q <;> omega
    · intro q; exact absurd (e2.2 q) h
theorem allF_nul {l : List Int} : allF l = 0 ↔ (0 : Int) ∈ l := by
  unfold allF
  by_cases h : (0 : Int) ∈ l
  · simp [h]
  · rw [if_neg h]
    constructor
    · intro q; split at q <;> omega
    · intro q; exact absurd q h
theorem win_more {r : List Int} {days lo hi lo' hi' x : Int} (hr : (r.length : Int) = days) (h1 : lo' ≤ lo) (h2 : hi ≤ hi') (h : x ∈ winF r days lo hi) : x ∈ winF r days lo' hi' := by
  subst hr
  rcases mem_win.1 h with ⟨k, a, b, c, e⟩ | ⟨a, e⟩
  · exact mem_win.2 (.inl ⟨k, by omega, by omega, c, e⟩)
  · exact mem_win.2 (.inr ⟨by omega, e⟩)
theorem more_day {op k days : Int} {e : Exp} {ts : List (List Int)} {d : Nat} (ho : op = 16 ∨ op = 18) (hd : d < days.toNat) (h : ((nodeF days e ts).length : Int) = days) (h1 : nth (nodeF days (overE op k e) ts) d = 1) : nth (nodeF days (overE op (k + 1) e) ts) d = 1 := by
  have hf : framedF op = true := by rcases ho with rfl | rfl <;> decide
  rw [nodeF_over hf, nth_days hd] at h1 ⊢
  rcases ho with rfl | rfl
  · rw [valF_ever, someF_one] at h1 ⊢
    exact win_more h (by omega) (by omega) h1
  · rw [valF_soon, someF_one] at h1 ⊢
    exact win_more h (by omega) (by omega) h1
theorem less_day {k days : Int} {e : Exp} {ts : List (List Int)} {d : Nat} (hd : d < days.toNat) (h : ((nodeF days e ts).length : Int) = days) (h1 : nth (nodeF days (overE 17 k e) ts) d = 0) : nth (nodeF days (overE 17 (k + 1) e) ts) d = 0 := by
  rw [nodeF_over (by decide), nth_days hd] at h1 ⊢
  rw [valF_long, allF_nul] at h1 ⊢
  exact win_more h (by omega) (by omega) h1
/-! ### right and fitting -/
theorem rightF_mono : ∀ (d : Nat) (e : Exp), rightF d e = true → rightF (d + 1) e = true
  | 0, .mk op n u s l, h => by simp [rightF] at h
  | d + 1, .mk op n u s l, h => by
    have key : l.all (rightF d) = true → l.all (rightF (d + 1)) = true := fun q => List.all_eq_true.2 fun x hx => rightF_mono d x (List.all_eq_true.1 q x hx)
    rw [rightF] at h ⊢
    rw [Bool.and_eq_true] at h ⊢
    refine ⟨h.1, ?_⟩
    have hh := h.2
    by_cases c0 : op = 0
    · rw [if_pos c0] at hh ⊢; exact hh
    rw [if_neg c0] at hh ⊢
    by_cases c1 : op = 1 ∨ op = 2 ∨ op = 3
    · rw [if_pos c1] at hh ⊢; exact hh
    rw [if_neg c1] at hh ⊢
    by_cases c2 : op = 16 ∨ op = 17 ∨ op = 18
    · rw [if_pos c2] at hh ⊢
      rw [Bool.and_eq_true] at hh ⊢
      exact ⟨hh.1, key hh.2⟩
    · rw [if_neg c2] at hh ⊢
      rw [Bool.and_eq_true] at hh ⊢
      exact ⟨hh.1, key hh.2⟩
theorem rightF_le {d d' : Nat} (hd : d ≤ d') {e : Exp} (h : rightF d e = true) : rightF d' e = true := by
  obtain ⟨k, rfl⟩ := Nat.exists_eq_add_of_le hd
  induction k with
  | zero => exact h
  | succ k ih => exact rightF_mono _ _ (ih (by omega))
theorem right_not {d : Nat} {e : Exp} : rightF (d + 1) (overE 12 0 e) = rightF d e := by
  rw [overE, rightF]
  simp [opsF]
theorem right_time {d : Nat} {op k : Int} {e : Exp} (ho : op = 16 ∨ op = 17 ∨ op = 18) (hk : 1 ≤ k ∧ k ≤ 1000) : rightF (d + 1) (overE op k e) = rightF d e := by
  rcases ho with rfl | rfl | rfl
  all_goals
    rw [overE, rightF]
    simp [opsF, inF, hk.1, hk.2]
theorem right_two {d : Nat} {op : Int} {e : Exp} (ho : op = 13 ∨ op = 14) : rightF (d + 1) (twoE op e) = rightF d e := by
  rcases ho with rfl | rfl
  all_goals
    rw [twoE, rightF]
    simp [opsF]
def restF (us : List Exp) (ts : List (List Int)) (days : Int) : Bool := decide (0 ≤ days) && decide (days ≤ 1000) && !(us.any timedF) && decide (us.length = ts.length) && ts.all (tokF days)
theorem fit_rest {e : Exp} {us : List Exp} {ts : List (List Int)} {days : Int} (h1 : rightF 12 e = true) (h2 : listF e = us) : fitF e ts days = restF us ts days := by
  rw [fitF, h1, h2, restF, Bool.true_and]
theorem rest_twice {us : List Exp} {ts : List (List Int)} {days : Int} (h : restF us ts days = true) : restF (us ++ us) (ts ++ ts) days = true := by
  simp only [restF, Bool.and_eq_true, decide_eq_true_iff, Bool.not_eq_true'] at h ⊢
  obtain ⟨⟨⟨⟨g2, g3⟩, g4⟩, g5⟩, g6⟩ := h
  exact ⟨⟨⟨⟨g2, g3⟩, by rw [List.any_append, g4]; rfl⟩, by simp [g5]⟩, by rw [List.all_append, g6]; rfl⟩
end Go.Proofs.Ytacilhkipekjlaa
