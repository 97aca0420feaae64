/-
  The reference: a day of a flat node
-/
import Derived.Test.YtacilhkipekjlaaWalk12
set_option linter.unusedVariables false
set_option linter.unusedSimpArgs false
set_option maxHeartbeats 8000000
namespace Go.Proofs.Ytacilhkipekjlaa
open Lf Go
attribute [local irreducible] PureOp EffOp Ev RG W Then InBlock Lf.Fin nth App InitE Pick SubE SubF SubG EvL EvD EvP EvR ResL Lf.Lex SubR SubBR RA RAll EvC FinO FinM ResM FinB ResD

/-! ### truths together -/
def orF (a b : Int) : Int := if a = 1 ∨ b = 1 then 1 else if a = 0 ∧ b = 0 then 0 else 2
def orL (l : List Int) : Int := l.foldl orF 0
def V3 (l : List Int) : Prop := ∀ x ∈ l, 0 ≤ x ∧ x ≤ 2
theorem orL_append (l : List Int) (x : Int) : orL (l ++ [x]) = orF (orL l) x := by simp [orL]
theorem orF_v3 {a b : Int} : 0 ≤ orF a b ∧ orF a b ≤ 2 := by unfold orF; (repeat' split) <;> omega
theorem notF_v3 {a : Int} (h : 0 ≤ a ∧ a ≤ 2) : 0 ≤ notF a ∧ notF a ≤ 2 := by unfold notF; (repeat' split) <;> omega
theorem foldl_or : ∀ (l : List Int) (a : Int), V3 l → 0 ≤ a ∧ a ≤ 2 → l.foldl orF a = if a = 1 ∨ 1 ∈ l then 1 else if a = 2 ∨ 2 ∈ l then 2 else 0
  | [], a, _, h => by
    simp
    by_cases h1 : a = 1
    · simp [h1]
    · by_cases h2 : a = 2
      · simp [h2]
      · simp [h1, h2]; omega
  | x :: r, a, h, ha => by
    have hx := h x (by simp)
    rw [List.foldl_cons, foldl_or r _ (fun y hy => h y (List.mem_cons_of_mem _ hy)) orF_v3]
    simp only [List.mem_cons]
    have e1 : orF a x = 1 ↔ a = 1 ∨ x = 1 := by unfold orF; (repeat' split) <;> omega
    have e2 : orF a x = 2 ↔ ¬ (a = 1 ∨ x = 1) ∧ (a = 2 ∨ x = 2) := by unfold orF; (repeat' split) <;> omega
    by_cases q1 : a = 1 ∨ (1 : Int) = x ∨ 1 ∈ r
    · rw [if_pos q1, if_pos]
      rcases q1 with q | q | q
      · exact .inl (e1.2 (.inl q))
      · exact .inl (e1.2 (.inr q.symm))
      · exact .inr q
    · rw [if_neg q1, if_neg]
      · by_cases q2 : a = 2 ∨ (2 : Int) = x ∨ 2 ∈ r
        · rw [if_pos q2, if_pos]
          rcases q2 with q | q | q
          · exact .inl (e2.2 ⟨by omega, .inl q⟩)
          · exact .inl (e2.2 ⟨by omega, .inr q.symm⟩)
          · exact .inr q
        · rw [if_neg q2, if_neg]
          rintro (q | q)
          · have := e2.1 q; omega
          · exact q2 (.inr (.inr q))
      · rintro (q | q)
        · have := e1.1 q; omega
        · exact q1 (.inr (.inr q))
theorem orL_eq {l : List Int} (h : V3 l) : orL l = if (1 : Int) ∈ l then 1 else if (2 : Int) ∈ l then 2 else 0 := by
  rw [orL, foldl_or l 0 h (by omega)]; simp
theorem V3.map_not {l : List Int} (h : V3 l) : V3 (l.map notF) := by
  intro x hx
  obtain ⟨y, hy, rfl⟩ := List.mem_map.1 hx
  exact notF_v3 (h y hy)
theorem mem_not {l : List Int} (h : V3 l) : ((0 : Int) ∈ l.map notF ↔ (1 : Int) ∈ l) ∧ ((1 : Int) ∈ l.map notF ↔ (0 : Int) ∈ l) ∧ ((2 : Int) ∈ l.map notF ↔ (2 : Int) ∈ l) := by
  have key : ∀ x, 0 ≤ x ∧ x ≤ 2 → (notF x = 0 ↔ x = 1) ∧ (notF x = 1 ↔ x = 0) ∧ (notF x = 2 ↔ x = 2) := by
    intro x hx; unfold notF; (repeat' split) <;> omega
  refine ⟨⟨fun q => ?_, fun q => ?_⟩, ⟨fun q => ?_, fun q => ?_⟩, ⟨fun q => ?_, fun q => ?_⟩⟩
  · obtain ⟨y, hy, e⟩ := List.mem_map.1 q; rw [← (key y (h y hy)).1.1 e]; exact hy
  · exact List.mem_map.2 ⟨1, q, by decide⟩
  · obtain ⟨y, hy, e⟩ := List.mem_map.1 q; rw [← (key y (h y hy)).2.1.1 e]; exact hy
  · exact List.mem_map.2 ⟨0, q, by decide⟩
  · obtain ⟨y, hy, e⟩ := List.mem_map.1 q; rw [← (key y (h y hy)).2.2.1 e]; exact hy
  · exact List.mem_map.2 ⟨2, q, by decide⟩
theorem someF_eq {l : List Int} (h : V3 l) : someF l = orL l := by
  rw [orL_eq h, someF, allF]
  simp only [(mem_not h).1, (mem_not h).2.2]
  repeat' split
  all_goals rfl
theorem allF_eq {l : List Int} (h : V3 l) : allF l = notF (orL (l.map notF)) := by
  rw [orL_eq h.map_not, allF]
  simp only [(mem_not h).2.1, (mem_not h).2.2]
  repeat' split
  all_goals rfl
/-- the truths of a row from one day up to another one; of the first day that is not told nothing is known -/
def segF (r : List Int) (lo k : Nat) : List Int := ((r ++ [2]).drop lo).take (k - lo)
theorem segF_self (r : List Int) (lo : Nat) : segF r lo lo = [] := by simp [segF]
theorem segF_succ {r : List Int} {lo k : Nat} (h1 : lo ≤ k) (h2 : k ≤ r.length) : segF r lo (k + 1) = segF r lo k ++ [nth (r ++ [2]) k] := by
  unfold segF
  rw [show k + 1 - lo = (k - lo) + 1 by omega, take_nth (by simp; omega)]
  congr 2
  rw [nth_eq (by simp; omega), nth_eq (by simp; omega), List.getElem_drop]
  congr 1
  omega
theorem segF_v3 {r : List Int} (h : V3 r) (lo k : Nat) : V3 (segF r lo k) := by
  intro x hx
  have := List.mem_of_mem_drop (List.mem_of_mem_take hx)
  rcases List.mem_append.1 this with q | q
  · exact h x q
  · rw [List.mem_singleton.1 q]; omega
theorem win_past {r : List Int} {d : Nat} {n : Int} (hd : d < r.length) (hn : 1 ≤ n) : winF r r.length ((d : Int) - n + 1) d = segF r (max 0 ((d : Int) - n + 1)).toNat (d + 1) := by
  unfold winF segF
  rw [if_neg (by omega), List.append_nil]
  have e1 : (min (max ((d : Int) - n + 1) 0) r.length).toNat = (max 0 ((d : Int) - n + 1)).toNat := by omega
  have e2 : (min (max ((d : Int) + 1) (max ((d : Int) - n + 1) 0)) r.length).toNat = d + 1 := by omega
  rw [e1, e2, List.drop_append_of_le_length (by omega), List.take_append_of_le_length (by simp; omega)]
theorem win_soon {r : List Int} {d : Nat} {n : Int} (hd : d < r.length) (hn : 1 ≤ n) : winF r r.length d ((d : Int) + n - 1) = segF r d ((min ((d : Int) + n - 1) r.length).toNat + 1) := by
  unfold winF segF
  have e1 : (min (max (d : Int) 0) r.length).toNat = d := by omega
  rw [e1]
  by_cases h : (d : Int) + n - 1 ≥ r.length
  · rw [if_pos h]
    have e2 : (min (max ((d : Int) + n - 1 + 1) (max (d : Int) 0)) r.length).toNat = r.length := by omega
    have e3 : (min ((d : Int) + n - 1) r.length).toNat = r.length := by omega
    rw [e2, e3, List.drop_append_of_le_length (by omega), List.take_of_length_le (by simp), List.take_of_length_le (by simp; omega)]
  · rw [if_neg h, List.append_nil]
    have e2 : (min (max ((d : Int) + n - 1 + 1) (max (d : Int) 0)) r.length).toNat = (min ((d : Int) + n - 1) r.length).toNat + 1 := by omega
    rw [e2, List.drop_append_of_le_length (by omega), List.take_append_of_le_length (by simp; omega)]
theorem or_ok (a b : Int) : ACalls Try.prog 54 [cI a, cI b] (.pv (cI (orF a b))) := by
  refine ACalls.of_W (qs := [cI (orF a b)]) [4] 17 Try.func54 (by kernel_rfl) rfl rfl rfl fun G => ?_
  refine W.initA (hw := ?_)
  repeat' (first
    | apply RG.nil
    | apply Lex.nil
    | apply Then.n
    | apply Then.r
    | apply Then.x
    | apply InBlock.n
    | apply InBlock.r
    | apply InBlock.hit
    | (apply InBlock.miss; exact rfl)
    | apply W.seq
    | apply W.region
    | apply W.block
    | apply W.skip
    | apply W.ret
    | apply W.exit
    | ((first | apply U_ | (apply Ug_; exact rfl; exact rfl) | (apply Ugq_; exact rfl; exact rfl)); (first
    | exact QX.Move TYok
    | exact QX.Asg TYok
    | exact QX.Bin TYok
    | exact QX.Pick TYok); exact rfl)
    | (apply S_isnil TYok; exact rfl; exact rfl; exact rfl; exact Ev.auto; intro bn hnil)
    | (apply RG.gT; exact rfl; exact rfl; (first | assumption | decide))
    | (apply RG.gF; exact rfl; exact rfl; (first | assumption | decide | (rw [ne_eq, Bool.not_eq_true]; assumption) | (rw [ne_eq, Bool.not_eq_false]; assumption)); exact rfl)
    | (refine W.condA (ht := fun hb => ?_) (hf := fun hb => ?_) <;> (try simp at hb) <;> (try (exfalso; omega))))
  · rw [orF, if_pos hb]; exact Fin.ret ResL.auto
  · rw [orF, if_neg (by omega), if_pos hb]; exact Fin.ret ResL.auto
  · rw [orF, if_neg (by omega), if_neg (by omega)]; exact Fin.ret ResL.auto
theorem rnot_ok (n : Int) (h : 0 ≤ n ∧ n ≤ 2) : ACalls Try.prog 53 [cI n] (.pv (cI (notF n))) := by
  refine ACalls.of_W (qs := [cI (notF n)]) [2] 8 Try.func53 (by kernel_rfl) rfl rfl rfl fun G => ?_
  refine W.initA (hw := ?_)
  repeat' (first
    | apply RG.nil
    | apply Lex.nil
    | apply Then.n
    | apply Then.r
    | apply Then.x
    | apply InBlock.n
    | apply InBlock.r
    | apply InBlock.hit
    | (apply InBlock.miss; exact rfl)
    | apply W.seq
    | apply W.region
    | apply W.block
    | apply W.skip
    | apply W.ret
    | apply W.exit
    | ((first | apply U_); (first
    | exact QX.Move TYok
    | exact QX.Asg TYok
    | exact QX.Bin TYok); exact rfl)
    | (apply S_isnil TYok; exact rfl; exact rfl; exact rfl; exact Ev.auto; intro bn hnil)
    | (refine W.condA (ht := fun hb => ?_) (hf := fun hb => ?_) <;> (try simp at hb) <;> (try (exfalso; omega))))
  · have e : notF n = n := by rw [notF, if_neg (by omega), if_neg (by omega)]
    rw [e]
    exact Fin.ret ResL.auto
  · have e : notF n = 1 - n := by
      rw [notF]; split
      · omega
      · rw [if_pos (by omega)]; omega
    rw [e]
    exact Fin.ret ResL.auto
theorem leaf_ok (x : Exp) (hx : framedF x.op = false) (ts : List (List Int)) (first d : Nat) (days : Int) (hf : first < ts.length) (hr : Rows days ts) (hd : (d : Int) ≤ days) (hb0 : days ≤ 1000) : ACalls Try.prog 45 [aE x, slR ts, cI first, cI days, cI d] (.pv (cI (nth (nth ts first ++ [2]) d))) := by
  obtain ⟨op, n, u, s, l⟩ := x
  have q := hr _ (nth_mem hf)
  have q1 : ((nth ts ((first : Nat) : Int).toNat).length : Int) = days := q
  have hrf := rframed_ok op
  rw [show framedF op = false from hx] at hrf
  rw [aE_mk]
  refine ACalls.of_W (qs := [cI (nth (nth ts first ++ [2]) d)]) [10] 140 Try.func45 (by kernel_rfl) rfl rfl rfl fun G => ?_
  refine W.initA (hw := ?_)
  repeat' (first
    | apply RG.nil
    | apply Lex.nil
    | apply Then.n
    | apply Then.r
    | apply Then.x
    | apply InBlock.n
    | apply InBlock.r
    | apply InBlock.hit
    | (apply InBlock.miss; exact rfl)
    | apply W.seq
    | apply W.region
    | apply W.block
    | apply W.skip
    | apply W.ret
    | apply W.exit
    | ((first | apply U_); (first
    | exact QX.Move TYok
    | exact QX.Asg TYok
    | exact QX.Fld TYok
    | exact QX.Ld TYok
    | exact QX.Bin TYok
    | exact QX.Un TYok
    | exact QX.Num TYok
    | exact QX.Len TYok
    | exact QX.Idx TYok
    | (apply Q_call (hrf); exact EvL.auto; exact rfl)); exact rfl)
    | refine SX.Box TYok (h := ?_)
    | (apply S_isnil TYok; exact rfl; exact rfl; exact rfl; exact Ev.auto; intro bn hnil)
    | (refine W.condA (ht := fun hb => ?_) (hf := fun hb => ?_) <;> (try simp at hb) <;> (try (exfalso; omega))))
  · have e : nth (nth ts first ++ [2]) d = 2 := by
      have : d = (nth ts first).length := by omega
      rw [this, nth, List.getD, List.getElem?_append_right (Nat.le_refl _)]; simp
    rw [e]
    exact Fin.ret ResL.auto
  · have e : nth (nth ts first ++ [2]) d = nth (nth ts first) d := by
      simp only [nth, List.getD]; rw [List.getElem?_append_left (by simp only [nth, List.getD] at q; omega)]
    rw [e]
    exact Fin.ret ResL.auto
theorem orL_v3 {l : List Int} (h : V3 l) : 0 ≤ orL l ∧ orL l ≤ 2 := by
  rw [orL_eq h]; (repeat' split) <;> omega
theorem nth_app {r : List Int} {d : Nat} (h : d < r.length) : nth (r ++ [2]) d = nth r d := by
  simp only [nth, List.getD]; rw [List.getElem?_append_left h]
theorem nth_map {r : List (List Int)} {f : List Int → Int} {k : Nat} (h : k < r.length) : nth (r.map f) k = f (nth r k) := by
  rw [nth_eq (by simpa using h), nth_eq h, List.getElem_map]
theorem flat12 {n u : Int} {s : Str} {L : List Exp} (hL : ∀ x ∈ L, framedF x.op = false) (ts : List (List Int)) (days : Int) (d : Nat) (hr : Rows days ts) (hv : ∀ r ∈ ts, V3 r) (hd : (d : Int) < days) (hb0 : days ≤ 1000) (hs : s.length ≤ 9223372036854775807) (hl : L.length = 1) (ht : ts.length = 1) :
    ACalls Try.prog 45 [.agg [.int .i64 12, .int .i64 n, .int .i64 u, .str s, .sl (L.map encX)], slR ts, cI 0, cI days, cI d] (.pv (cI (notF (nth (ts.map fun r => nth r d) 0)))) := by
  have h0 := leaf_ok (nth L 0) (hL _ (nth_mem (by omega))) ts 0 d days (by omega) hr (by omega) hb0
  have q := hr _ (nth_mem (l := ts) (k := 0) (by omega))
  have hv0 := hv _ (nth_mem (l := ts) (k := 0) (by omega)) _ (nth_mem (l := nth ts 0) (k := d) (by omega))
  rw [nth_app (by omega)] at h0
  rw [nth_map (by omega)]
  have hrf := rframed_ok 12
  rw [show framedF 12 = true from by decide] at hrf
  refine ACalls.of_W (qs := [cI (notF (nth (nth ts 0) d))]) [10] 140 Try.func45 (by kernel_rfl) rfl rfl rfl fun G => ?_
  refine W.initA (hw := ?_)
  repeat' (first
    | apply RG.nil
    | apply Lex.nil
    | apply Then.n
    | apply Then.r
    | apply Then.x
    | apply InBlock.n
    | apply InBlock.r
    | apply InBlock.hit
    | (apply InBlock.miss; exact rfl)
    | apply W.seq
    | apply W.region
    | apply W.block
    | apply W.skip
    | apply W.ret
    | apply W.exit
    | ((first | apply U_); (first
    | exact QX.Move TYok
    | exact QX.Asg TYok
    | exact QX.Fld TYok
    | exact QX.Ld TYok
    | exact QX.Bin TYok
    | exact QX.Un TYok
    | exact QX.Num TYok
    | exact QX.Len TYok
    | exact QX.Idx TYok
    | (apply Q_call (hrf); exact EvL.auto; exact rfl)
    | (apply Q_call (h0); exact EvL.auto; exact rfl)
    | (apply Q_call (rnot_ok (nth (nth ts 0) d) hv0); exact EvL.auto; exact rfl)); exact rfl)
    | refine SX.Box TYok (h := ?_)
    | (apply S_isnil TYok; exact rfl; exact rfl; exact rfl; exact Ev.auto; intro bn hnil)
    | (refine W.condA (ht := fun hb => ?_) (hf := fun hb => ?_) <;> (try simp at hb) <;> (try (exfalso; omega))))
  exact Fin.ret ResL.auto
theorem flat16 {n u : Int} {s : Str} {L : List Exp} (hL : ∀ x ∈ L, framedF x.op = false) (ts : List (List Int)) (days : Int) (d : Nat) (hr : Rows days ts) (hv : ∀ r ∈ ts, V3 r) (hd : (d : Int) < days) (hb0 : days ≤ 1000) (hs : s.length ≤ 9223372036854775807) (hn : 1 ≤ n ∧ n ≤ 1000) (hl : L.length = 1) (ht : ts.length = 1) :
    ACalls Try.prog 45 [.agg [.int .i64 16, .int .i64 n, .int .i64 u, .str s, .sl (L.map encX)], slR ts, cI 0, cI days, cI d] (.pv (cI (someF (winF (nth ts 0) (nth ts 0).length ((d : Int) - n + 1) d)))) := by
  have q := hr _ (nth_mem (l := ts) (k := 0) (by omega))
  have hv0 := hv _ (nth_mem (l := ts) (k := 0) (by omega))
  have hrf := rframed_ok 16
  rw [show framedF 16 = true from by decide] at hrf
  have h0 : ∀ k : Nat, (k : Int) ≤ days → ACalls Try.prog 45 [aE (nth L 0), slR ts, cI 0, cI days, cI k] (.pv (cI (nth (nth ts 0 ++ [2]) k))) := fun k hk => leaf_ok (nth L 0) (hL _ (nth_mem (by omega))) ts 0 k days (by omega) hr hk hb0
  have e : someF (winF (nth ts 0) (nth ts 0).length ((d : Int) - n + 1) d) = (orL (segF (nth ts 0) ((max 0 ((d : Int) - n + 1)).toNat) (d + 1)) : Int) := by
    rw [win_past (by omega) (by omega), someF_eq (segF_v3 hv0 _ _)]
  rw [e]
  have hlo : (((max 0 ((d : Int) - n + 1)).toNat : Nat) : Int) = max 0 ((d : Int) - n + 1) := by omega
  have hhi : ((d : Nat) : Int) = (d : Int) := by omega
  have hlh : (max 0 ((d : Int) - n + 1)).toNat ≤ d + 1 ∧ d ≤ (nth ts 0).length := by omega
  generalize (max 0 ((d : Int) - n + 1)).toNat = lo at hlo hlh ⊢
  refine ACalls.of_W (qs := [cI (orL (segF (nth ts 0) lo (d + 1)))]) [10] 140 Try.func45 (by kernel_rfl) rfl rfl rfl fun G => ?_
  refine W.initA (hw := ?_)
  repeat' (first
    | apply RG.nil
    | apply Lex.nil
    | apply Then.n
    | apply Then.r
    | apply Then.x
    | apply InBlock.n
    | apply InBlock.r
    | apply InBlock.hit
    | (apply InBlock.miss; exact rfl)
    | apply W.seq
    | apply W.region
    | apply W.block
    | apply W.skip
    | apply W.ret
    | apply W.exit
    | ((first | apply U_); (first
    | exact QX.Move TYok
    | exact QX.Asg TYok
    | exact QX.Fld TYok
    | exact QX.Ld TYok
    | exact QX.Bin TYok
    | exact QX.Un TYok
    | exact QX.Num TYok
    | exact QX.Len TYok
    | exact QX.Idx TYok
    | (apply Q_call (hrf); exact EvL.auto; exact rfl)); exact rfl)
    | refine SX.Box TYok (h := ?_)
    | (apply S_isnil TYok; exact rfl; exact rfl; exact rfl; exact Ev.auto; intro bn hnil)
    | (refine W.condA (ht := fun hb => ?_) (hf := fun hb => ?_) <;> (try simp at hb) <;> (try (exfalso; omega))))
  apply W.loopP (σ := Nat) 140 [1, 2, 3, 5] (fun k => lo ≤ k ∧ k ≤ d + 1) (fun k => [(14, (True, .pv (cI (orL (segF (nth ts 0) lo k))))), (15, vI k), (13, vI d)]) (fun _ => [(5, ⟨24, 5, [[.int .i64 16, .int .i64 n, .int .i64 u, .str s, .sl (L.map encX)]]⟩)]) (fun k => d + 1 - k) (lo)
  case hp => repeat (first | exact Pick.nil | apply Pick.cons rfl)
  case h0 =>
    refine ⟨by omega, ?_⟩
    simp only [segF_self, List.map_nil, show orL [] = 0 from rfl]
    exact Le.auto
  case round =>
    rintro k ⟨h1, h2⟩
    apply W.norm (by repeat (first | exact App.nil | apply App.cons))
    by_cases hk : k ≤ d
    · have hvk : 0 ≤ nth (nth ts 0 ++ [2]) k ∧ nth (nth ts 0 ++ [2]) k ≤ 2 := by
        have := segF_v3 hv0 lo (k + 1)
        rw [segF_succ h1 (by omega)] at this
        exact this _ (by simp)
      have h0k := h0 k (by omega)
      repeat' (first
        | apply RG.nil
        | apply Lex.nil
        | apply Then.n
        | apply Then.r
        | apply Then.x
        | apply InBlock.n
        | apply InBlock.r
        | apply InBlock.hit
        | (apply InBlock.miss; exact rfl)
        | apply W.seq
        | apply W.region
        | apply W.block
        | apply W.skip
        | apply W.ret
        | apply W.exit
        | ((first | apply U_); (first
    | exact QX.Move TYok
    | exact QX.Asg TYok
    | exact QX.Fld TYok
    | exact QX.Ld TYok
    | exact QX.Bin TYok
    | exact QX.Un TYok
    | exact QX.Num TYok
    | exact QX.Len TYok
    | exact QX.Idx TYok
    | (apply Q_call (h0k); exact EvL.auto; exact rfl)
    | (apply Q_call (or_ok (orL (segF (nth ts 0) lo k)) (nth (nth ts 0 ++ [2]) k)); exact EvL.auto; exact rfl)
    | (apply Q_call (rnot_ok (nth (nth ts 0 ++ [2]) k) hvk); exact EvL.auto; exact rfl)); exact rfl)
        | refine SX.Box TYok (h := ?_)
        | (apply S_isnil TYok; exact rfl; exact rfl; exact rfl; exact Ev.auto; intro bn hnil)
        | (refine W.condA (ht := fun hb => ?_) (hf := fun hb => ?_) <;> (try simp at hb) <;> (try (exfalso; omega))))
      refine ⟨k + 1, by omega, ?_, ?_⟩
      · simp only [segF_succ h1 (show k ≤ (nth ts 0).length by omega), List.map_append, List.map_cons, List.map_nil, orL_append]
        exact Le.auto
      · (try simp only); omega
    · obtain rfl : k = d + 1 := by omega
      repeat' (first
        | apply RG.nil
        | apply Lex.nil
        | apply Then.n
        | apply Then.r
        | apply Then.x
        | apply InBlock.n
        | apply InBlock.r
        | apply InBlock.hit
        | (apply InBlock.miss; exact rfl)
        | apply W.seq
        | apply W.region
        | apply W.block
        | apply W.skip
        | apply W.ret
        | apply W.exit
        | ((first | apply U_); (first
    | exact QX.Move TYok
    | exact QX.Asg TYok
    | exact QX.Fld TYok
    | exact QX.Ld TYok
    | exact QX.Bin TYok
    | exact QX.Un TYok
    | exact QX.Num TYok
    | exact QX.Len TYok
    | exact QX.Idx TYok
    | (apply Q_call (rnot_ok (orL (segF (nth ts 0) lo (d + 1))) (orL_v3 (segF_v3 hv0 _ _))); exact EvL.auto; exact rfl)); exact rfl)
        | refine SX.Box TYok (h := ?_)
        | (apply S_isnil TYok; exact rfl; exact rfl; exact rfl; exact Ev.auto; intro bn hnil)
        | (refine W.condA (ht := fun hb => ?_) (hf := fun hb => ?_) <;> (try simp at hb) <;> (try (exfalso; omega))))
      exact Fin.ret ResL.auto
theorem flat17 {n u : Int} {s : Str} {L : List Exp} (hL : ∀ x ∈ L, framedF x.op = false) (ts : List (List Int)) (days : Int) (d : Nat) (hr : Rows days ts) (hv : ∀ r ∈ ts, V3 r) (hd : (d : Int) < days) (hb0 : days ≤ 1000) (hs : s.length ≤ 9223372036854775807) (hn : 1 ≤ n ∧ n ≤ 1000) (hl : L.length = 1) (ht : ts.length = 1) :
    ACalls Try.prog 45 [.agg [.int .i64 17, .int .i64 n, .int .i64 u, .str s, .sl (L.map encX)], slR ts, cI 0, cI days, cI d] (.pv (cI (allF (winF (nth ts 0) (nth ts 0).length ((d : Int) - n + 1) d)))) := by
  have q := hr _ (nth_mem (l := ts) (k := 0) (by omega))
  have hv0 := hv _ (nth_mem (l := ts) (k := 0) (by omega))
  have hrf := rframed_ok 17
  rw [show framedF 17 = true from by decide] at hrf
  have h0 : ∀ k : Nat, (k : Int) ≤ days → ACalls Try.prog 45 [aE (nth L 0), slR ts, cI 0, cI days, cI k] (.pv (cI (nth (nth ts 0 ++ [2]) k))) := fun k hk => leaf_ok (nth L 0) (hL _ (nth_mem (by omega))) ts 0 k days (by omega) hr hk hb0
  have e : allF (winF (nth ts 0) (nth ts 0).length ((d : Int) - n + 1) d) = (notF (orL ((segF (nth ts 0) ((max 0 ((d : Int) - n + 1)).toNat) (d + 1)).map notF)) : Int) := by
    rw [win_past (by omega) (by omega), allF_eq (segF_v3 hv0 _ _)]
  rw [e]
  have hlo : (((max 0 ((d : Int) - n + 1)).toNat : Nat) : Int) = max 0 ((d : Int) - n + 1) := by omega
  have hhi : ((d : Nat) : Int) = (d : Int) := by omega
  have hlh : (max 0 ((d : Int) - n + 1)).toNat ≤ d + 1 ∧ d ≤ (nth ts 0).length := by omega
  generalize (max 0 ((d : Int) - n + 1)).toNat = lo at hlo hlh ⊢
  refine ACalls.of_W (qs := [cI (notF (orL ((segF (nth ts 0) lo (d + 1)).map notF)))]) [10] 140 Try.func45 (by kernel_rfl) rfl rfl rfl fun G => ?_
  refine W.initA (hw := ?_)
  repeat' (first
    | apply RG.nil
    | apply Lex.nil
    | apply Then.n
    | apply Then.r
    | apply Then.x
    | apply InBlock.n
    | apply InBlock.r
    | apply InBlock.hit
    | (apply InBlock.miss; exact rfl)
    | apply W.seq
    | apply W.region
    | apply W.block
    | apply W.skip
    | apply W.ret
    | apply W.exit
    | ((first | apply U_); (first
    | exact QX.Move TYok
    | exact QX.Asg TYok
    | exact QX.Fld TYok
    | exact QX.Ld TYok
    | exact QX.Bin TYok
    | exact QX.Un TYok
    | exact QX.Num TYok
    | exact QX.Len TYok
    | exact QX.Idx TYok
    | (apply Q_call (hrf); exact EvL.auto; exact rfl)); exact rfl)
    | refine SX.Box TYok (h := ?_)
    | (apply S_isnil TYok; exact rfl; exact rfl; exact rfl; exact Ev.auto; intro bn hnil)
    | (refine W.condA (ht := fun hb => ?_) (hf := fun hb => ?_) <;> (try simp at hb) <;> (try (exfalso; omega))))
  apply W.loopP (σ := Nat) 140 [1, 2, 3, 5] (fun k => lo ≤ k ∧ k ≤ d + 1) (fun k => [(14, (True, .pv (cI (orL ((segF (nth ts 0) lo k).map notF))))), (15, vI k), (13, vI d)]) (fun _ => [(5, ⟨24, 5, [[.int .i64 17, .int .i64 n, .int .i64 u, .str s, .sl (L.map encX)]]⟩)]) (fun k => d + 1 - k) (lo)
  case hp => repeat (first | exact Pick.nil | apply Pick.cons rfl)
  case h0 =>
    refine ⟨by omega, ?_⟩
    simp only [segF_self, List.map_nil, show orL [] = 0 from rfl]
    exact Le.auto
  case round =>
    rintro k ⟨h1, h2⟩
    apply W.norm (by repeat (first | exact App.nil | apply App.cons))
    by_cases hk : k ≤ d
    · have hvk : 0 ≤ nth (nth ts 0 ++ [2]) k ∧ nth (nth ts 0 ++ [2]) k ≤ 2 := by
        have := segF_v3 hv0 lo (k + 1)
        rw [segF_succ h1 (by omega)] at this
        exact this _ (by simp)
      have h0k := h0 k (by omega)
      repeat' (first
        | apply RG.nil
        | apply Lex.nil
        | apply Then.n
        | apply Then.r
        | apply Then.x
        | apply InBlock.n
        | apply InBlock.r
        | apply InBlock.hit
        | (apply InBlock.miss; exact rfl)
        | apply W.seq
        | apply W.region
        | apply W.block
        | apply W.skip
        | apply W.ret
        | apply W.exit
        | ((first | apply U_); (first
    | exact QX.Move TYok
    | exact QX.Asg TYok
    | exact QX.Fld TYok
    | exact QX.Ld TYok
    | exact QX.Bin TYok
    | exact QX.Un TYok
    | exact QX.Num TYok
    | exact QX.Len TYok
    | exact QX.Idx TYok
    | (apply Q_call (h0k); exact EvL.auto; exact rfl)
    | (apply Q_call (or_ok (orL ((segF (nth ts 0) lo k).map notF)) (notF (nth (nth ts 0 ++ [2]) k))); exact EvL.auto; exact rfl)
    | (apply Q_call (rnot_ok (nth (nth ts 0 ++ [2]) k) hvk); exact EvL.auto; exact rfl)); exact rfl)
        | refine SX.Box TYok (h := ?_)
        | (apply S_isnil TYok; exact rfl; exact rfl; exact rfl; exact Ev.auto; intro bn hnil)
        | (refine W.condA (ht := fun hb => ?_) (hf := fun hb => ?_) <;> (try simp at hb) <;> (try (exfalso; omega))))
      refine ⟨k + 1, by omega, ?_, ?_⟩
      · simp only [segF_succ h1 (show k ≤ (nth ts 0).length by omega), List.map_append, List.map_cons, List.map_nil, orL_append]
        exact Le.auto
      · (try simp only); omega
    · obtain rfl : k = d + 1 := by omega
      repeat' (first
        | apply RG.nil
        | apply Lex.nil
        | apply Then.n
        | apply Then.r
        | apply Then.x
        | apply InBlock.n
        | apply InBlock.r
        | apply InBlock.hit
        | (apply InBlock.miss; exact rfl)
        | apply W.seq
        | apply W.region
        | apply W.block
        | apply W.skip
        | apply W.ret
        | apply W.exit
        | ((first | apply U_); (first
    | exact QX.Move TYok
    | exact QX.Asg TYok
    | exact QX.Fld TYok
    | exact QX.Ld TYok
    | exact QX.Bin TYok
    | exact QX.Un TYok
    | exact QX.Num TYok
    | exact QX.Len TYok
    | exact QX.Idx TYok
    | (apply Q_call (rnot_ok (orL ((segF (nth ts 0) lo (d + 1)).map notF)) (orL_v3 (segF_v3 hv0 _ _).map_not)); exact EvL.auto; exact rfl)); exact rfl)
        | refine SX.Box TYok (h := ?_)
        | (apply S_isnil TYok; exact rfl; exact rfl; exact rfl; exact Ev.auto; intro bn hnil)
        | (refine W.condA (ht := fun hb => ?_) (hf := fun hb => ?_) <;> (try simp at hb) <;> (try (exfalso; omega))))
      exact Fin.ret ResL.auto
theorem flat18 {n u : Int} {s : Str} {L : List Exp} (hL : ∀ x ∈ L, framedF x.op = false) (ts : List (List Int)) (days : Int) (d : Nat) (hr : Rows days ts) (hv : ∀ r ∈ ts, V3 r) (hd : (d : Int) < days) (hb0 : days ≤ 1000) (hs : s.length ≤ 9223372036854775807) (hn : 1 ≤ n ∧ n ≤ 1000) (hl : L.length = 1) (ht : ts.length = 1) :
    ACalls Try.prog 45 [.agg [.int .i64 18, .int .i64 n, .int .i64 u, .str s, .sl (L.map encX)], slR ts, cI 0, cI days, cI d] (.pv (cI (someF (winF (nth ts 0) (nth ts 0).length d ((d : Int) + n - 1))))) := by
  have q := hr _ (nth_mem (l := ts) (k := 0) (by omega))
  have hv0 := hv _ (nth_mem (l := ts) (k := 0) (by omega))
  have hrf := rframed_ok 18
  rw [show framedF 18 = true from by decide] at hrf
  have h0 : ∀ k : Nat, (k : Int) ≤ days → ACalls Try.prog 45 [aE (nth L 0), slR ts, cI 0, cI days, cI k] (.pv (cI (nth (nth ts 0 ++ [2]) k))) := fun k hk => leaf_ok (nth L 0) (hL _ (nth_mem (by omega))) ts 0 k days (by omega) hr hk hb0
  have e : someF (winF (nth ts 0) (nth ts 0).length d ((d : Int) + n - 1)) = (orL (segF (nth ts 0) (d) ((min ((d : Int) + n - 1) (nth ts 0).length).toNat + 1)) : Int) := by
    rw [win_soon (by omega) (by omega), someF_eq (segF_v3 hv0 _ _)]
  rw [e]
  have hlo : ((d : Nat) : Int) = (d : Int) := by omega
  have hhi : (((min ((d : Int) + n - 1) (nth ts 0).length).toNat : Nat) : Int) = min ((d : Int) + n - 1) days := by omega
  have hlh : d ≤ (min ((d : Int) + n - 1) (nth ts 0).length).toNat + 1 ∧ (min ((d : Int) + n - 1) (nth ts 0).length).toNat ≤ (nth ts 0).length := by omega
  generalize (min ((d : Int) + n - 1) (nth ts 0).length).toNat = hi at hhi hlh ⊢
  refine ACalls.of_W (qs := [cI (orL (segF (nth ts 0) d (hi + 1)))]) [10] 140 Try.func45 (by kernel_rfl) rfl rfl rfl fun G => ?_
  refine W.initA (hw := ?_)
  repeat' (first
    | apply RG.nil
    | apply Lex.nil
    | apply Then.n
    | apply Then.r
    | apply Then.x
    | apply InBlock.n
    | apply InBlock.r
    | apply InBlock.hit
    | (apply InBlock.miss; exact rfl)
    | apply W.seq
    | apply W.region
    | apply W.block
    | apply W.skip
    | apply W.ret
    | apply W.exit
    | ((first | apply U_); (first
    | exact QX.Move TYok
    | exact QX.Asg TYok
    | exact QX.Fld TYok
    | exact QX.Ld TYok
    | exact QX.Bin TYok
    | exact QX.Un TYok
    | exact QX.Num TYok
    | exact QX.Len TYok
    | exact QX.Idx TYok
    | (apply Q_call (hrf); exact EvL.auto; exact rfl)); exact rfl)
    | refine SX.Box TYok (h := ?_)
    | (apply S_isnil TYok; exact rfl; exact rfl; exact rfl; exact Ev.auto; intro bn hnil)
    | (refine W.condA (ht := fun hb => ?_) (hf := fun hb => ?_) <;> (try simp at hb) <;> (try (exfalso; omega))))
  apply W.loopP (σ := Nat) 140 [1, 2, 3, 5] (fun k => d ≤ k ∧ k ≤ hi + 1) (fun k => [(14, (True, .pv (cI (orL (segF (nth ts 0) d k))))), (15, vI k), (13, vI hi)]) (fun _ => [(5, ⟨24, 5, [[.int .i64 18, .int .i64 n, .int .i64 u, .str s, .sl (L.map encX)]]⟩)]) (fun k => hi + 1 - k) (d)
  case hp => repeat (first | exact Pick.nil | apply Pick.cons rfl)
  case h0 =>
    refine ⟨by omega, ?_⟩
    simp only [segF_self, List.map_nil, show orL [] = 0 from rfl]
    exact Le.auto
  case round =>
    rintro k ⟨h1, h2⟩
    apply W.norm (by repeat (first | exact App.nil | apply App.cons))
    by_cases hk : k ≤ hi
    · have hvk : 0 ≤ nth (nth ts 0 ++ [2]) k ∧ nth (nth ts 0 ++ [2]) k ≤ 2 := by
        have := segF_v3 hv0 d (k + 1)
        rw [segF_succ h1 (by omega)] at this
        exact this _ (by simp)
      have h0k := h0 k (by omega)
      repeat' (first
        | apply RG.nil
        | apply Lex.nil
        | apply Then.n
        | apply Then.r
        | apply Then.x
        | apply InBlock.n
        | apply InBlock.r
        | apply InBlock.hit
        | (apply InBlock.miss; exact rfl)
        | apply W.seq
        | apply W.region
        | apply W.block
        | apply W.skip
        | apply W.ret
        | apply W.exit
        | ((first | apply U_); (first
    | exact QX.Move TYok
    | exact QX.Asg TYok
    | exact QX.Fld TYok
    | exact QX.Ld TYok
    | exact QX.Bin TYok
    | exact QX.Un TYok
    | exact QX.Num TYok
    | exact QX.Len TYok
    | exact QX.Idx TYok
    | (apply Q_call (h0k); exact EvL.auto; exact rfl)
    | (apply Q_call (or_ok (orL (segF (nth ts 0) d k)) (nth (nth ts 0 ++ [2]) k)); exact EvL.auto; exact rfl)
    | (apply Q_call (rnot_ok (nth (nth ts 0 ++ [2]) k) hvk); exact EvL.auto; exact rfl)); exact rfl)
        | refine SX.Box TYok (h := ?_)
        | (apply S_isnil TYok; exact rfl; exact rfl; exact rfl; exact Ev.auto; intro bn hnil)
        | (refine W.condA (ht := fun hb => ?_) (hf := fun hb => ?_) <;> (try simp at hb) <;> (try (exfalso; omega))))
      refine ⟨k + 1, by omega, ?_, ?_⟩
      · simp only [segF_succ h1 (show k ≤ (nth ts 0).length by omega), List.map_append, List.map_cons, List.map_nil, orL_append]
        exact Le.auto
      · (try simp only); omega
    · obtain rfl : k = hi + 1 := by omega
      repeat' (first
        | apply RG.nil
        | apply Lex.nil
        | apply Then.n
        | apply Then.r
        | apply Then.x
        | apply InBlock.n
        | apply InBlock.r
        | apply InBlock.hit
        | (apply InBlock.miss; exact rfl)
        | apply W.seq
        | apply W.region
        | apply W.block
        | apply W.skip
        | apply W.ret
        | apply W.exit
        | ((first | apply U_); (first
    | exact QX.Move TYok
    | exact QX.Asg TYok
    | exact QX.Fld TYok
    | exact QX.Ld TYok
    | exact QX.Bin TYok
    | exact QX.Un TYok
    | exact QX.Num TYok
    | exact QX.Len TYok
    | exact QX.Idx TYok
    | (apply Q_call (rnot_ok (orL (segF (nth ts 0) d (hi + 1))) (orL_v3 (segF_v3 hv0 _ _))); exact EvL.auto; exact rfl)); exact rfl)
        | refine SX.Box TYok (h := ?_)
        | (apply S_isnil TYok; exact rfl; exact rfl; exact rfl; exact Ev.auto; intro bn hnil)
        | (refine W.condA (ht := fun hb => ?_) (hf := fun hb => ?_) <;> (try simp at hb) <;> (try (exfalso; omega))))
      exact Fin.ret ResL.auto
theorem flat13 {n u : Int} {s : Str} {L : List Exp} (hL : ∀ x ∈ L, framedF x.op = false) (ts : List (List Int)) (days : Int) (d : Nat) (hr : Rows days ts) (hv : ∀ r ∈ ts, V3 r) (hd : (d : Int) < days) (hb0 : days ≤ 1000) (hs : s.length ≤ 9223372036854775807) (ho : ∀ x ∈ L, OkE x) (hl : L.length = ts.length) (ht : ts.length ≤ 1000) :
    ACalls Try.prog 45 [.agg [.int .i64 13, .int .i64 n, .int .i64 u, .str s, .sl (L.map encX)], slR ts, cI 0, cI days, cI d] (.pv (cI (allF (ts.map fun r => nth r d)))) := by
  have hrf := rframed_ok 13
  rw [show framedF 13 = true from by decide] at hrf
  have hvs : V3 (ts.map fun r => nth r d) := by
    intro x hx
    obtain ⟨r, hr1, rfl⟩ := List.mem_map.1 hx
    have := hr r hr1
    exact hv r hr1 _ (nth_mem (by omega))
  have e : allF (ts.map fun r => nth r d) = (notF (orL (ts.map fun r => notF (nth r d))) : Int) := by
    rw [allF_eq hvs, List.map_map]; rfl
  rw [e]
  have hvn : V3 (ts.map fun r => notF (nth r d)) := by
    intro x hx
    obtain ⟨r, hr1, rfl⟩ := List.mem_map.1 hx
    have := hr r hr1
    exact notF_v3 (hv r hr1 _ (nth_mem (by omega)))
  have hlist : ∀ x ∈ L, ACalls Try.prog 31 [aE x] (.pv (slE [x])) := by
    intro x hx
    have h := list_ok x (ho x hx)
    have e : listF x = [x] := by
      obtain ⟨op, n, u, s, l⟩ := x
      have := hL _ hx
      rw [listF, if_neg (by rw [show framedF op = false from this]; simp)]
    rw [e] at h
    exact h (by simp)
  refine ACalls.of_W (qs := [cI (notF (orL (ts.map fun r => notF (nth r d))))]) [10] 140 Try.func45 (by kernel_rfl) rfl rfl rfl fun G => ?_
  refine W.initA (hw := ?_)
  repeat' (first
    | apply RG.nil
    | apply Lex.nil
    | apply Then.n
    | apply Then.r
    | apply Then.x
    | apply InBlock.n
    | apply InBlock.r
    | apply InBlock.hit
    | (apply InBlock.miss; exact rfl)
    | apply W.seq
    | apply W.region
    | apply W.block
    | apply W.skip
    | apply W.ret
    | apply W.exit
    | ((first | apply U_); (first
    | exact QX.Move TYok
    | exact QX.Asg TYok
    | exact QX.Fld TYok
    | exact QX.Ld TYok
    | exact QX.Bin TYok
    | exact QX.Un TYok
    | exact QX.Num TYok
    | exact QX.Len TYok
    | exact QX.Idx TYok
    | (apply Q_call (hrf); exact EvL.auto; exact rfl)); exact rfl)
    | refine SX.Box TYok (h := ?_)
    | (apply S_isnil TYok; exact rfl; exact rfl; exact rfl; exact Ev.auto; intro bn hnil)
    | (refine W.condA (ht := fun hb => ?_) (hf := fun hb => ?_) <;> (try simp at hb) <;> (try (exfalso; omega))))
  apply W.loopP (σ := Nat) 140 [1, 3, 4, 5] (fun k => k ≤ L.length) (fun k => [(2, vI k), (17, (True, .pv (cI (orL ((ts.map fun r => notF (nth r d)).take k))))), (18, vI k)]) (fun _ => [(5, ⟨24, 5, [[.int .i64 13, .int .i64 n, .int .i64 u, .str s, .sl (L.map encX)]]⟩)]) (fun k => L.length - k) (0)
  case hp => repeat (first | exact Pick.nil | apply Pick.cons rfl)
  case h0 =>
    refine ⟨by omega, ?_⟩
    simp only [List.take_zero, show orL [] = 0 from rfl]
    exact Le.auto
  case round =>
    rintro k h1
    apply W.norm (by repeat (first | exact App.nil | apply App.cons))
    by_cases hk : k < L.length
    · have q := hr _ (nth_mem (l := ts) (k := k) (by omega))
      have h0 := leaf_ok (nth L k) (hL _ (nth_mem hk)) ts k d days (by omega) hr (by omega) hb0
      rw [nth_app (by omega)] at h0
      have hvk := hv _ (nth_mem (l := ts) (k := k) (by omega)) _ (nth_mem (l := nth ts k) (k := d) (by omega))
      have hli := hlist _ (nth_mem hk)
      have hone : ([nth L k] : List Exp).length = 1 := rfl
      repeat' (first
        | apply RG.nil
        | apply Lex.nil
        | apply Then.n
        | apply Then.r
        | apply Then.x
        | apply InBlock.n
        | apply InBlock.r
        | apply InBlock.hit
        | (apply InBlock.miss; exact rfl)
        | apply W.seq
        | apply W.region
        | apply W.block
        | apply W.skip
        | apply W.ret
        | apply W.exit
        | ((first | apply U_); (first
    | exact QX.Move TYok
    | exact QX.Asg TYok
    | exact QX.Fld TYok
    | exact QX.Ld TYok
    | exact QX.Bin TYok
    | exact QX.Un TYok
    | exact QX.Num TYok
    | exact QX.Len TYok
    | exact QX.Idx TYok
    | (apply Q_call (h0); exact EvL.auto; exact rfl)
    | (apply Q_call (or_ok (orL ((ts.map fun r => notF (nth r d)).take k)) (notF (nth (nth ts k) d))); exact EvL.auto; exact rfl)
    | (apply Q_call (rnot_ok (nth (nth ts k) d) hvk); exact EvL.auto; exact rfl)
    | (apply Q_calld (hli); exact EvD.auto)); exact rfl)
        | refine SX.Box TYok (h := ?_)
        | (apply S_isnil TYok; exact rfl; exact rfl; exact rfl; exact Ev.auto; intro bn hnil)
        | (refine W.condA (ht := fun hb => ?_) (hf := fun hb => ?_) <;> (try simp at hb) <;> (try (exfalso; omega))))
      refine ⟨k + 1, by omega, ?_, ?_⟩
      · rw [take_nth (l := (ts.map fun r => notF (nth r d))) (k := k) (by simp; omega), orL_append, nth_map (by omega)]
        exact Le.auto
      · (try simp only); omega
    · obtain rfl : k = L.length := by omega
      have hn : (ts.map fun r => notF (nth r d)).take L.length = (ts.map fun r => notF (nth r d)) := List.take_of_length_le (by simp; omega)
      simp only [hn]
      repeat' (first
        | apply RG.nil
        | apply Lex.nil
        | apply Then.n
        | apply Then.r
        | apply Then.x
        | apply InBlock.n
        | apply InBlock.r
        | apply InBlock.hit
        | (apply InBlock.miss; exact rfl)
        | apply W.seq
        | apply W.region
        | apply W.block
        | apply W.skip
        | apply W.ret
        | apply W.exit
        | ((first | apply U_); (first
    | exact QX.Move TYok
    | exact QX.Asg TYok
    | exact QX.Fld TYok
    | exact QX.Ld TYok
    | exact QX.Bin TYok
    | exact QX.Un TYok
    | exact QX.Num TYok
    | exact QX.Len TYok
    | exact QX.Idx TYok
    | (apply Q_call (rnot_ok (orL (ts.map fun r => notF (nth r d))) (orL_v3 hvn)); exact EvL.auto; exact rfl)); exact rfl)
        | refine SX.Box TYok (h := ?_)
        | (apply S_isnil TYok; exact rfl; exact rfl; exact rfl; exact Ev.auto; intro bn hnil)
        | (refine W.condA (ht := fun hb => ?_) (hf := fun hb => ?_) <;> (try simp at hb) <;> (try (exfalso; omega))))
      exact Fin.ret ResL.auto
theorem flat14 {n u : Int} {s : Str} {L : List Exp} (hL : ∀ x ∈ L, framedF x.op = false) (ts : List (List Int)) (days : Int) (d : Nat) (hr : Rows days ts) (hv : ∀ r ∈ ts, V3 r) (hd : (d : Int) < days) (hb0 : days ≤ 1000) (hs : s.length ≤ 9223372036854775807) (ho : ∀ x ∈ L, OkE x) (hl : L.length = ts.length) (ht : ts.length ≤ 1000) :
    ACalls Try.prog 45 [.agg [.int .i64 14, .int .i64 n, .int .i64 u, .str s, .sl (L.map encX)], slR ts, cI 0, cI days, cI d] (.pv (cI (someF (ts.map fun r => nth r d)))) := by
  have hrf := rframed_ok 14
  rw [show framedF 14 = true from by decide] at hrf
  have hvs : V3 (ts.map fun r => nth r d) := by
    intro x hx
    obtain ⟨r, hr1, rfl⟩ := List.mem_map.1 hx
    have := hr r hr1
    exact hv r hr1 _ (nth_mem (by omega))
  have e : someF (ts.map fun r => nth r d) = (orL (ts.map fun r => nth r d) : Int) := by
    rw [someF_eq hvs]
  rw [e]
  have hvn : V3 (ts.map fun r => nth r d) := by
    intro x hx
    obtain ⟨r, hr1, rfl⟩ := List.mem_map.1 hx
    have := hr r hr1
    exact hv r hr1 _ (nth_mem (by omega))
  have hlist : ∀ x ∈ L, ACalls Try.prog 31 [aE x] (.pv (slE [x])) := by
    intro x hx
    have h := list_ok x (ho x hx)
    have e : listF x = [x] := by
      obtain ⟨op, n, u, s, l⟩ := x
      have := hL _ hx
      rw [listF, if_neg (by rw [show framedF op = false from this]; simp)]
    rw [e] at h
    exact h (by simp)
  refine ACalls.of_W (qs := [cI (orL (ts.map fun r => nth r d))]) [10] 140 Try.func45 (by kernel_rfl) rfl rfl rfl fun G => ?_
  refine W.initA (hw := ?_)
  repeat' (first
    | apply RG.nil
    | apply Lex.nil
    | apply Then.n
    | apply Then.r
    | apply Then.x
    | apply InBlock.n
    | apply InBlock.r
    | apply InBlock.hit
    | (apply InBlock.miss; exact rfl)
    | apply W.seq
    | apply W.region
    | apply W.block
    | apply W.skip
    | apply W.ret
    | apply W.exit
    | ((first | apply U_); (first
    | exact QX.Move TYok
    | exact QX.Asg TYok
    | exact QX.Fld TYok
    | exact QX.Ld TYok
    | exact QX.Bin TYok
    | exact QX.Un TYok
    | exact QX.Num TYok
    | exact QX.Len TYok
    | exact QX.Idx TYok
    | (apply Q_call (hrf); exact EvL.auto; exact rfl)); exact rfl)
    | refine SX.Box TYok (h := ?_)
    | (apply S_isnil TYok; exact rfl; exact rfl; exact rfl; exact Ev.auto; intro bn hnil)
    | (refine W.condA (ht := fun hb => ?_) (hf := fun hb => ?_) <;> (try simp at hb) <;> (try (exfalso; omega))))
  apply W.loopP (σ := Nat) 140 [1, 3, 4, 5] (fun k => k ≤ L.length) (fun k => [(2, vI k), (17, (True, .pv (cI (orL ((ts.map fun r => nth r d).take k))))), (18, vI k)]) (fun _ => [(5, ⟨24, 5, [[.int .i64 14, .int .i64 n, .int .i64 u, .str s, .sl (L.map encX)]]⟩)]) (fun k => L.length - k) (0)
  case hp => repeat (first | exact Pick.nil | apply Pick.cons rfl)
  case h0 =>
    refine ⟨by omega, ?_⟩
    simp only [List.take_zero, show orL [] = 0 from rfl]
    exact Le.auto
  case round =>
    rintro k h1
    apply W.norm (by repeat (first | exact App.nil | apply App.cons))
    by_cases hk : k < L.length
    · have q := hr _ (nth_mem (l := ts) (k := k) (by omega))
      have h0 := leaf_ok (nth L k) (hL _ (nth_mem hk)) ts k d days (by omega) hr (by omega) hb0
      rw [nth_app (by omega)] at h0
      have hvk := hv _ (nth_mem (l := ts) (k := k) (by omega)) _ (nth_mem (l := nth ts k) (k := d) (by omega))
      have hli := hlist _ (nth_mem hk)
      have hone : ([nth L k] : List Exp).length = 1 := rfl
      repeat' (first
        | apply RG.nil
        | apply Lex.nil
        | apply Then.n
        | apply Then.r
        | apply Then.x
        | apply InBlock.n
        | apply InBlock.r
        | apply InBlock.hit
        | (apply InBlock.miss; exact rfl)
        | apply W.seq
        | apply W.region
        | apply W.block
        | apply W.skip
        | apply W.ret
        | apply W.exit
        | ((first | apply U_); (first
    | exact QX.Move TYok
    | exact QX.Asg TYok
    | exact QX.Fld TYok
    | exact QX.Ld TYok
    | exact QX.Bin TYok
    | exact QX.Un TYok
    | exact QX.Num TYok
    | exact QX.Len TYok
    | exact QX.Idx TYok
    | (apply Q_call (h0); exact EvL.auto; exact rfl)
    | (apply Q_call (or_ok (orL ((ts.map fun r => nth r d).take k)) (nth (nth ts k) d)); exact EvL.auto; exact rfl)
    | (apply Q_call (rnot_ok (nth (nth ts k) d) hvk); exact EvL.auto; exact rfl)
    | (apply Q_calld (hli); exact EvD.auto)); exact rfl)
        | refine SX.Box TYok (h := ?_)
        | (apply S_isnil TYok; exact rfl; exact rfl; exact rfl; exact Ev.auto; intro bn hnil)
        | (refine W.condA (ht := fun hb => ?_) (hf := fun hb => ?_) <;> (try simp at hb) <;> (try (exfalso; omega))))
      refine ⟨k + 1, by omega, ?_, ?_⟩
      · rw [take_nth (l := (ts.map fun r => nth r d)) (k := k) (by simp; omega), orL_append, nth_map (by omega)]
        exact Le.auto
      · (try simp only); omega
    · obtain rfl : k = L.length := by omega
      have hn : (ts.map fun r => nth r d).take L.length = (ts.map fun r => nth r d) := List.take_of_length_le (by simp; omega)
      simp only [hn]
      repeat' (first
        | apply RG.nil
        | apply Lex.nil
        | apply Then.n
        | apply Then.r
        | apply Then.x
        | apply InBlock.n
        | apply InBlock.r
        | apply InBlock.hit
        | (apply InBlock.miss; exact rfl)
        | apply W.seq
        | apply W.region
        | apply W.block
        | apply W.skip
        | apply W.ret
        | apply W.exit
        | ((first | apply U_); (first
    | exact QX.Move TYok
    | exact QX.Asg TYok
    | exact QX.Fld TYok
    | exact QX.Ld TYok
    | exact QX.Bin TYok
    | exact QX.Un TYok
    | exact QX.Num TYok
    | exact QX.Len TYok
    | exact QX.Idx TYok
    | (apply Q_call (rnot_ok (orL (ts.map fun r => nth r d)) (orL_v3 hvn)); exact EvL.auto; exact rfl)); exact rfl)
        | refine SX.Box TYok (h := ?_)
        | (apply S_isnil TYok; exact rfl; exact rfl; exact rfl; exact Ev.auto; intro bn hnil)
        | (refine W.condA (ht := fun hb => ?_) (hf := fun hb => ?_) <;> (try simp at hb) <;> (try (exfalso; omega))))
      exact Fin.ret ResL.auto
end Go.Proofs.Ytacilhkipekjlaa
