/-
  What becomes known stays so
-/
import Derived.Test.YtacilhkipekjlaaRead
set_option linter.unusedVariables false
set_option linter.unusedSimpArgs false
set_option maxHeartbeats 8000000
namespace Go.Proofs.Ytacilhkipekjlaa
open Lf Go
attribute [local irreducible] PureOp EffOp Ev RG W Then InBlock Lf.Fin nth App InitE Pick SubE SubF SubG EvL EvD EvP EvR ResL Lf.Lex SubR SubBR RA RAll EvC FinO FinM ResM FinB ResD

/-! ### what becomes known stays so: the plain law -/
def LeV (a b : Int) : Prop := a = 2 ∨ b = a
def LeR (r r' : List Int) : Prop := ∀ k, k < r.length → LeV (nth r k) (nth r' k)
structure Mono (l l' : List Int) : Prop where
  one : (1 : Int) ∈ l → (1 : Int) ∈ l'
  nul : (0 : Int) ∈ l → (0 : Int) ∈ l'
  sub : (2 : Int) ∉ l → ∀ x ∈ l', x ∈ l
theorem LeV.not {a b : Int} (h : LeV a b) : LeV (notF a) (notF b) := by
  rcases h with rfl | rfl
  · exact .inl (by decide)
  · exact .inr rfl
theorem Mono.all {l l' : List Int} (h : Mono l l') : LeV (allF l) (allF l') := by
  unfold allF
  by_cases h0 : (0 : Int) ∈ l
  · rw [if_pos h0, if_pos (h.nul h0)]; exact .inr rfl
  · by_cases h2 : (2 : Int) ∈ l
    · rw [if_neg h0, if_pos h2]; exact .inl rfl
    · rw [if_neg h0, if_neg h2, if_neg (fun q => h0 (h.sub h2 _ q)), if_neg (fun q => h2 (h.sub h2 _ q))]; exact .inr rfl
theorem Mono.map_not {l l' : List Int} (h : Mono l l') (hv : V3 l) (hv' : V3 l') : Mono (l.map notF) (l'.map notF) := by
  obtain ⟨a1, a2, a3⟩ := mem_not hv
  obtain ⟨b1, b2, b3⟩ := mem_not hv'
  refine ⟨fun q => b2.2 (h.nul (a2.1 q)), fun q => b1.2 (h.one (a1.1 q)), fun q x hx => ?_⟩
  obtain ⟨y, hy, rfl⟩ := List.mem_map.1 hx
  exact List.mem_map.2 ⟨y, h.sub (fun z => q (a3.2 z)) y hy, rfl⟩
theorem Mono.some {l l' : List Int} (h : Mono l l') (hv : V3 l) (hv' : V3 l') : LeV (someF l) (someF l') := (h.map_not hv hv').all.not
theorem mem_nth {l : List Int} {x : Int} : x ∈ l ↔ ∃ k, k < l.length ∧ nth l k = x := by
  constructor
  · intro h
    obtain ⟨k, hk, e⟩ := List.getElem_of_mem h
    exact ⟨k, hk, by rw [nth_eq hk]; exact e⟩
  · rintro ⟨k, hk, rfl⟩; exact nth_mem hk
theorem mem_nthF {args : List (List Int)} {f : List Int → Int} {x : Int} : x ∈ args.map f ↔ ∃ k, k < args.length ∧ f (nth args k) = x := by
  rw [mem_nth]
  simp only [List.length_map]
  constructor
  · rintro ⟨k, hk, e⟩; exact ⟨k, hk, by rw [← e, nth_map hk]⟩
  · rintro ⟨k, hk, e⟩; exact ⟨k, hk, by rw [← e, nth_map hk]⟩
theorem mono_args {args args' : List (List Int)} {d : Nat} (hl : args.length = args'.length) (h : ∀ i, i < args.length → LeR (nth args i) (nth args' i)) (hd : ∀ r ∈ args, d < r.length) : Mono (args.map fun r => nth r d) (args'.map fun r => nth r d) := by
  refine ⟨fun q => ?_, fun q => ?_, fun q x hx => ?_⟩
  · obtain ⟨k, hk, e⟩ := mem_nthF.1 q
    refine mem_nthF.2 ⟨k, by omega, ?_⟩
    rcases h k hk d (hd _ (nth_mem hk)) with e' | e'
    · omega
    · rw [e']; exact e
  · obtain ⟨k, hk, e⟩ := mem_nthF.1 q
    refine mem_nthF.2 ⟨k, by omega, ?_⟩
    rcases h k hk d (hd _ (nth_mem hk)) with e' | e'
    · omega
    · rw [e']; exact e
  · obtain ⟨k, hk, e⟩ := mem_nthF.1 hx
    refine mem_nthF.2 ⟨k, by omega, ?_⟩
    rcases h k (by omega) d (hd _ (nth_mem (by omega))) with e' | e'
    · exact absurd (mem_nthF.2 ⟨k, by omega, e'⟩) q
    · rw [← e']; exact e
theorem mem_seg {r : List Int} {a c : Nat} {x : Int} : x ∈ (r.drop a).take c ↔ ∃ k, a ≤ k ∧ k < a + c ∧ k < r.length ∧ nth r k = x := by
  rw [mem_nth]
  simp only [List.length_take, List.length_drop]
  constructor
  · rintro ⟨k, hk, e⟩
    refine ⟨a + k, by omega, by omega, by omega, ?_⟩
    rw [← e, nth_eq (by omega), nth_eq (by simp; omega)]
    simp
  · rintro ⟨k, h1, h2, h3, e⟩
    refine ⟨k - a, by omega, ?_⟩
    rw [← e, nth_eq h3, nth_eq (by simp; omega)]
    simp only [List.getElem_take, List.getElem_drop]
    congr 1; omega
theorem mem_win {r : List Int} {lo hi : Int} {x : Int} : x ∈ winF r r.length lo hi ↔ (∃ k : Nat, lo ≤ (k : Int) ∧ (k : Int) ≤ hi ∧ k < r.length ∧ nth r k = x) ∨ (hi ≥ (r.length : Int) ∧ x = 2) := by
  unfold winF
  rw [List.mem_append, mem_seg]
  have e : x ∈ (if hi ≥ (r.length : Int) then [2] else []) ↔ hi ≥ (r.length : Int) ∧ x = 2 := by
    split
    · simp [*]
    · simp [*]
  rw [e]
  constructor
  · rintro (⟨k, h1, h2, h3, e⟩ | h)
    · exact .inl ⟨k, by omega, by omega, h3, e⟩
    · exact .inr h
  · rintro (⟨k, h1, h2, h3, e⟩ | h)
    · exact .inl ⟨k, by omega, by omega, h3, e⟩
    · exact .inr h
theorem mono_win {r r' : List Int} {lo hi : Int} (hl : r.length ≤ r'.length) (h : LeR r r') : Mono (winF r r.length lo hi) (winF r' r'.length lo hi) := by
  refine ⟨fun q => ?_, fun q => ?_, fun q x hx => ?_⟩
  · rcases mem_win.1 q with ⟨k, h1, h2, h3, e⟩ | ⟨_, e⟩
    · refine mem_win.2 (.inl ⟨k, h1, h2, by omega, ?_⟩)
      rcases h k h3 with e' | e'
      · omega
      · rw [e']; exact e
    · omega
  · rcases mem_win.1 q with ⟨k, h1, h2, h3, e⟩ | ⟨_, e⟩
    · refine mem_win.2 (.inl ⟨k, h1, h2, by omega, ?_⟩)
      rcases h k h3 with e' | e'
      · omega
      · rw [e']; exact e
    · omega
  · have hlt : hi < r.length := by
      by_cases hh : hi < r.length
      · exact hh
      · exact absurd (mem_win.2 (.inr ⟨by omega, rfl⟩)) q
    rcases mem_win.1 hx with ⟨k, h1, h2, h3, e⟩ | ⟨h1, e⟩
    · refine mem_win.2 (.inl ⟨k, h1, h2, by omega, ?_⟩)
      rcases h k (by omega) with e' | e'
      · exact absurd (mem_win.2 (.inl ⟨k, h1, h2, by omega, e'⟩)) q
      · rw [← e']; exact e
    · omega
structure Rel2 (days days' : Int) (ts ts' : List (List Int)) : Prop where
  len : ts.length = ts'.length
  rows : Rows days ts
  rows' : Rows days' ts'
  v : ∀ r ∈ ts, V3 r
  v' : ∀ r ∈ ts', V3 r
  le : ∀ i, i < ts.length → LeR (nth ts i) (nth ts' i)
theorem nth_drop {ts : List (List Int)} {k i : Nat} (h : k + i < ts.length) : nth (ts.drop k) i = nth ts (k + i) := by
  rw [nth_eq (by simp; omega), nth_eq h]; simp
theorem Rel2.drop {days days' : Int} {ts ts' : List (List Int)} (h : Rel2 days days' ts ts') (k : Nat) : Rel2 days days' (ts.drop k) (ts'.drop k) :=
  ⟨by simp [h.len], h.rows.drop k, h.rows'.drop k, fun r hr => h.v r (List.mem_of_mem_drop hr), fun r hr => h.v' r (List.mem_of_mem_drop hr), fun i hi => by
    simp only [List.length_drop] at hi
    have hl := h.len
    rw [nth_drop (by omega), nth_drop (by omega)]
    exact h.le _ (by omega)⟩
theorem valF_le {op N days days' : Int} {args args' : List (List Int)} {d : Nat} (h : Rel2 days days' args args') (hd : (d : Int) < days) (hdd : days ≤ days') (h1 : 1 ≤ args.length) : LeV (valF days op N args d) (valF days' op N args' d) := by
  have hl := h.len
  have hlt : ∀ r ∈ args, d < r.length := fun r hr => by have := h.rows r hr; omega
  have hlt' : ∀ r ∈ args', d < r.length := fun r hr => by have := h.rows' r hr; omega
  have hm := mono_args hl h.le hlt
  have v1 : V3 (args.map fun r => nth r d) := by
    intro x hx
    obtain ⟨r, hr, rfl⟩ := List.mem_map.1 hx
    exact h.v r hr _ (nth_mem (hlt r hr))
  have v2 : V3 (args'.map fun r => nth r d) := by
    intro x hx
    obtain ⟨r, hr, rfl⟩ := List.mem_map.1 hx
    exact h.v' r hr _ (nth_mem (hlt' r hr))
  have q0 := h.rows _ (nth_mem (l := args) (k := 0) (by omega))
  have q0' := h.rows' _ (nth_mem (l := args') (k := 0) (by omega))
  have w0 := h.v _ (nth_mem (l := args) (k := 0) (by omega))
  have w0' := h.v' _ (nth_mem (l := args') (k := 0) (by omega))
  have hw : ∀ lo hi : Int, Mono (winF (nth args 0) days lo hi) (winF (nth args' 0) days' lo hi) := fun lo hi => by
    rw [← q0, ← q0']
    exact mono_win (by omega) (h.le 0 (by omega))
  unfold valF
  by_cases c1 : op = 12
  · rw [if_pos c1, if_pos c1, nth_map (by omega), nth_map (by omega)]
    exact (h.le 0 (by omega) d (by omega)).not
  rw [if_neg c1, if_neg c1]
  by_cases c2 : op = 13
  · rw [if_pos c2, if_pos c2]; exact hm.all
  rw [if_neg c2, if_neg c2]
  by_cases c3 : op = 14
  · rw [if_pos c3, if_pos c3]; exact hm.some v1 v2
  rw [if_neg c3, if_neg c3]
  by_cases c4 : op = 16
  · rw [if_pos c4, if_pos c4]; exact (hw _ _).some (winF_v3 w0 _ _ _) (winF_v3 w0' _ _ _)
  rw [if_neg c4, if_neg c4]
  by_cases c5 : op = 17
  · rw [if_pos c5, if_pos c5]; exact (hw _ _).all
  rw [if_neg c5, if_neg c5]
  exact (hw _ _).some (winF_v3 w0 _ _ _) (winF_v3 w0' _ _ _)
theorem nth_days {f : Nat → Int} {n k : Nat} (h : k < n) : nth ((List.range n).map f) k = f k := by
  rw [nth_eq (by simpa using h)]; simp
mutual
theorem nodeF_le {days days' : Int} (h0 : 0 ≤ days) (hdd : days ≤ days') : ∀ (d : Nat) (e : Exp) (ts ts' : List (List Int)), rightF d e = true → Rel2 days days' ts ts' → (listF e).length ≤ ts.length → LeR (nodeF days e ts) (nodeF days' e ts')
  | 0, .mk op n u s l, ts, ts', hr, _, _ => by simp [rightF] at hr
  | d + 1, .mk op n u s l, ts, ts', hr, h, hl => by
    rw [nodeF, nodeF]
    cases hf : framedF op with
    | false =>
      rw [listF, hf] at hl
      simp at hl ⊢
      exact h.le 0 hl
    | true =>
      obtain ⟨g1, g2, g3, g4, g5, g6⟩ := right_framed hr hf
      rw [listF, hf] at hl
      simp only [if_true] at hl ⊢
      have hA := nodesF_le h0 hdd d l ts ts' g3 h hl
      intro k hk
      simp only [List.length_map, List.length_range] at hk
      rw [nth_days hk, nth_days (by omega)]
      exact valF_le hA (by omega) hdd (by rw [nodesF_len]; exact g1)
theorem nodesF_le {days days' : Int} (h0 : 0 ≤ days) (hdd : days ≤ days') : ∀ (d : Nat) (l : List Exp) (ts ts' : List (List Int)), (∀ x ∈ l, rightF d x = true) → Rel2 days days' ts ts' → (listFs l).length ≤ ts.length → Rel2 days days' (nodesF days l ts) (nodesF days' l ts')
  | d, [], ts, ts', _, _, _ => ⟨rfl, fun r hr => by simp [nodesF] at hr, fun r hr => by simp [nodesF] at hr, fun r hr => by simp [nodesF] at hr, fun r hr => by simp [nodesF] at hr, fun i hi => by simp [nodesF] at hi⟩
  | d, e :: r, ts, ts', hr, h, hl => by
    have hlen := h.len
    have hl' : (listFs (e :: r)).length ≤ ts'.length := by omega
    refine ⟨by rw [nodesF_len, nodesF_len], nodesF_rows h0 h.rows hl, nodesF_rows (by omega) h.rows' hl', nodesF_v3 (d := d) _ _ hr h0 h.rows h.v hl, nodesF_v3 (d := d) _ _ hr (by omega) h.rows' h.v' hl', ?_⟩
    rw [listFs, List.length_append] at hl
    have h1 := nodeF_le h0 hdd d e ts ts' (hr e (by simp)) h (by omega)
    have h2 := nodesF_le h0 hdd d r (ts.drop (listF e).length) (ts'.drop (listF e).length) (fun x hx => hr x (List.mem_cons_of_mem _ hx)) (h.drop _) (by simp; omega)
    intro i hi
    rw [nodesF, nodesF]
    cases i with
    | zero => simpa [nth] using h1
    | succ i =>
      rw [nodesF, List.length_cons] at hi
      have := h2.le i (by omega)
      simpa [nth] using this
end
/-! ### other truths, fewer days -/
theorem ext_nth {l m : List Int} (hl : l.length = m.length) (h : ∀ k, k < l.length → nth l k = nth m k) : l = m := by
  apply List.ext_getElem hl
  intro k h1 h2
  have := h k h1
  rwa [nth_eq h1, nth_eq h2] at this
theorem nth_setI {m : List Int} {k j : Nat} {v : Int} (hk : k < m.length) : nth (m.set k v) j = if j = k then v else nth m j := by
  simp only [nth, List.getD, List.getElem?_set]
  by_cases h : k = j
  · subst h; simp [hk]
  · rw [if_neg h, if_neg (Ne.symm h)]
def kn1 (t mo : List Int) (d : Nat) : Int := if nth t d = 2 ∧ d < mo.length ∧ 0 ≤ nth mo d ∧ nth mo d < 3 then nth mo d else nth t d
def knF (t mo : List Int) : List Int := (List.range t.length).map (kn1 t mo)
theorem knF_len (t mo : List Int) : (knF t mo).length = t.length := by simp [knF]
theorem knF_nil (t : List Int) : knF t [] = t := by
  refine ext_nth (knF_len _ _) fun k hk => ?_
  rw [knF_len] at hk
  rw [knF, nth_days hk, kn1, if_neg (by simp)]
def knownF (ts more : List (List Int)) (k : Nat) : List (List Int) := (List.range k).map fun i => knF (nth ts i) (nth more i)
def shortF (ts : List (List Int)) (n : Nat) : List (List Int) := ts.map fun r => r.take n
theorem tok_of {t : List Int} {days : Int} (h1 : (t.length : Int) = days) (h2 : V3 t) : tokF days t = true := by
  rw [tokF, decide_eq_true h1, Bool.true_and, Bool.not_eq_true']
  refine List.any_eq_false.2 fun x hx => ?_
  have := h2 x hx
  simp [oddF]; omega
theorem fit_change {e : Exp} {ts ts' : List (List Int)} {days days' : Int} (h : fitF e ts days = true) (hl : ts'.length = ts.length) (h0 : 0 ≤ days') (h1 : days' ≤ 1000) (h2 : Rows days' ts') (h3 : ∀ r ∈ ts', V3 r) : fitF e ts' days' = true := by
  simp only [fitF, Bool.and_eq_true, decide_eq_true_iff] at h ⊢
  obtain ⟨⟨⟨⟨⟨g1, g2⟩, g3⟩, g4⟩, g5⟩, g6⟩ := h
  exact ⟨⟨⟨⟨⟨g1, h0⟩, h1⟩, g4⟩, by omega⟩, List.all_eq_true.2 fun r hr => tok_of (h2 r hr) (h3 r hr)⟩
theorem fit_get {e : Exp} {ts : List (List Int)} {days : Int} (h : fitF e ts days = true) : rightF 12 e = true ∧ 0 ≤ days ∧ days ≤ 1000 ∧ (listF e).length = ts.length ∧ Rows days ts ∧ ∀ r ∈ ts, V3 r := by
  simp only [fitF, Bool.and_eq_true, decide_eq_true_iff] at h
  obtain ⟨⟨⟨⟨⟨g1, g2⟩, g3⟩, g4⟩, g5⟩, g6⟩ := h
  exact ⟨g1, g2, g3, g5, fit_rows (e := e) g6, fun r hr => odd_v3 (List.all_eq_true.1 g6 r hr)⟩
theorem kn1_v3 {t mo : List Int} {d : Nat} (h : V3 t) (hd : d < t.length) : 0 ≤ kn1 t mo d ∧ kn1 t mo d ≤ 2 := by
  unfold kn1
  split
  · omega
  · exact h _ (nth_mem hd)
theorem known_mem {ts more : List (List Int)} {k : Nat} {r : List Int} (h : r ∈ knownF ts more k) : ∃ i, i < k ∧ r = knF (nth ts i) (nth more i) := by
  obtain ⟨i, hi, rfl⟩ := List.mem_map.1 h
  exact ⟨i, List.mem_range.1 hi, rfl⟩
theorem nth_known {ts more : List (List Int)} {k i : Nat} (h : i < k) : nth (knownF ts more k) i = knF (nth ts i) (nth more i) := by
  rw [nth_eq (by simpa [knownF] using h)]; simp [knownF]
theorem knF_v3 {t mo : List Int} (h : V3 t) : V3 (knF t mo) := by
  intro x hx
  obtain ⟨d, hd, rfl⟩ := List.mem_map.1 hx
  exact kn1_v3 h (List.mem_range.1 hd)
theorem rel_known {ts more : List (List Int)} {days : Int} (h1 : Rows days ts) (h2 : ∀ r ∈ ts, V3 r) : Rel2 days days ts (knownF ts more ts.length) := by
  refine ⟨by simp [knownF], h1, fun r hr => ?_, h2, fun r hr => ?_, fun i hi => ?_⟩
  · obtain ⟨i, hi, rfl⟩ := known_mem hr
    rw [knF_len]; exact h1 _ (nth_mem hi)
  · obtain ⟨i, hi, rfl⟩ := known_mem hr
    exact knF_v3 (h2 _ (nth_mem hi))
  · rw [nth_known hi]
    intro d hd
    rw [knF, nth_days hd, kn1]
    split
    · rename_i q; exact .inl q.1
    · exact .inr rfl
theorem nth_take {r : List Int} {n k : Nat} (h : k < n) : nth (r.take n) k = nth r k := by
  simp only [nth, List.getD]; rw [List.getElem?_take, if_pos h]
theorem rel_short {ts : List (List Int)} {days : Int} {n : Nat} (hn : (n : Int) ≤ days) (h1 : Rows days ts) (h2 : ∀ r ∈ ts, V3 r) : Rel2 n days (shortF ts n) ts := by
  refine ⟨by simp [shortF], fun r hr => ?_, h1, fun r hr => ?_, h2, fun i hi => ?_⟩
  · obtain ⟨t, ht, rfl⟩ := List.mem_map.1 hr
    have := h1 t ht
    simp; omega
  · obtain ⟨t, ht, rfl⟩ := List.mem_map.1 hr
    exact fun x hx => h2 t ht x (List.mem_of_mem_take hx)
  · simp only [shortF, List.length_map] at hi
    have e : nth (shortF ts n) i = (nth ts i).take n := by
      rw [shortF, nth_eq (by simpa using hi), nth_eq hi, List.getElem_map]
    rw [e]
    intro k hk
    rw [nth_take (by simp at hk; omega)]
    exact .inr rfl
end Go.Proofs.Ytacilhkipekjlaa
