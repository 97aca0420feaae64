/-
  Part 6 of what the proof rests on.
-/
import Derived.Test.YtgpcmgjdkefdjaaOS05
import Derived.Test.YtgpcmgjdkefdjaaOS04
import Derived.Test.YtgpcmgjdkefdjaaOS03
section
set_option linter.unusedVariables false
set_option linter.unusedSimpArgs false
set_option maxHeartbeats 8000000
namespace Go.Proofs.Ytgpcmgjdkefdjaa
open Lf Go
attribute [local irreducible] PureOp EffOp Ev RG W Then InBlock Lf.Fin nth App InitE Pick SubE EvL EvD EvP EvR ResL Lf.Lex SubR SubBR RA RAll EvC FinO FinM ResM ResD FinS val pw digs trimL
structure TimK (a b out : List Int) (i k : Nat) (c : Int) : Prop where
  len : out.length = a.length + b.length
  dig : Dig out
  c0 : 0 ≤ c ∧ c < 1048576
  top : b.length < k → c = 0
  eq : val out + pw (i + k) * c = val (a.take i) * val b + nth a i * (pw i * val (b.take k))
  high : k ≤ b.length → nth out (i + b.length) = 0
  high2 : ∀ j, i + 1 + b.length ≤ j → j < out.length → nth out j = 0
theorem TimK.step {a b out : List Int} {i k : Nat} {c : Int} (h : TimK a b out i k c) (hi : i < a.length) (hk : k ≤ b.length) (ha : Dig a) (hb : Dig b) {n : Int} (hn : n = nth out (i + k) + nth a i * vj b k + c) :
    TimK a b (out.set (i + k) (n % 1048576)) i (k + 1) (n / 1048576) := by
  have h1 := h.len
  have h2 := h.dig.nth (show i + k < out.length by omega)
  have h3 := mul_le (ha.nth hi) (vj_dig hb k)
  have h4 := h.c0
  have h5 := h.eq
  have h0 : k = b.length → n = c := fun e => by
    subst e
    rw [hn, h.high (by omega), vj_no (by omega)]; omega
  refine ⟨by simp [h1], h.dig.set (by omega), by omega, fun q => ?_, ?_, fun q => ?_, fun j hj hj2 => ?_⟩
  · have := h0 (by omega); omega
  · rw [val_set (by omega), show i + (k + 1) = (i + k) + 1 by omega, pw, vj_take]
    have h6 := Int.emod_add_mul_ediv n 1048576
    have h7 := pw_add k i
    generalize n % 1048576 = r at h6 ⊢
    generalize n / 1048576 = q at h6 ⊢
    generalize nth out (i + k) = o at hn ⊢
    generalize nth a i = x at *
    generalize vj b k = y at *
    generalize pw (i + k) = p at *
    generalize val (b.take k) = w at *
    generalize val (a.take i) * val b = u at *
    subst h7
    have e : n = o + x * y + c := hn
    have e2 : r = n - 1048576 * q := by omega
    subst e2
    subst e
    grind
  · rw [nth_set_ne (by omega)]
    exact h.high hk
  · rw [nth_set_ne (by omega)]
    exact h.high2 j hj (by simpa using hj2)
theorem TimK.done {a b out : List Int} {i k : Nat} (h : TimK a b out i k 0) (hi : i < a.length) (hk : b.length ≤ k) : MulI a b out (i + 1) := by
  refine ⟨h.len, h.dig, ?_, fun j hj hj2 => h.high2 j (by omega) hj2⟩
  have h5 := h.eq
  rw [val_take hi]
  rw [List.take_of_length_le hk] at h5
  generalize pw i = p at *
  generalize val (a.take i) = u at *
  grind
theorem rtimes_ok (a b : List Int) (da : Dig a) (db : Dig b) (hl : a.length ≤ 1000000) (hl' : b.length ≤ 1000000) : ACalls Try.prog 71 [slI a, slI b] (.pv (slI (digs (val a * val b)))) := by
  have h2 := rdigit_ok b
  have key : ∀ (out : List Int), MulI a b out a.length → ACalls Try.prog 90 [slI out] (.pv (slI (digs (val a * val b)))) := fun out h => by
    rw [← trim_eq h.dig (by rw [h.eq, List.take_length])]; exact rtrim_ok out (by rw [h.len]; omega)
  refine ACalls.of_W (qs := [slI (digs (val a * val b))]) [4] 60 Try.func71 (by kernel_rfl) rfl rfl rfl fun G => ?_
  refine W.initA (hw := ?_)
  repeat' (first | ((first | apply U_ | (apply Ug_; exact rfl; exact rfl) | (apply Ugq_; exact rfl; exact rfl) | apply Lex.u | (apply Lex.g; exact rfl; exact rfl) | (apply Lex.gq; exact rfl; exact rfl)); (first | exact QX.B TYok | exact QX.Len TYok | exact QX.Idx TYok); exact rfl) | refine SX.Store TYok (h := ?_) | refine SX.Make TYok (h := ?_) | refine SC ?_ | refine SG ?_ | (apply W.draw2 (id := 9) [0, 0, 0, 6, 15, 31, 0, 0, 192, 448, 0, 0, 3072, 8128, 16383, 0, 65535, 131071] [[5], [6], [8], [33, 34], [32, 35], [36], [0], [6], [38, 39], [40], [1], [8], [42, 43], [41, 44], [37, 45], [7], [46, 47], [48]] 18 [(32, 32), (33, 64), (34, 256), (35, 25769803776), (36, 38654705664), (37, 68719476736), (38, 1), (39, 64), (40, 824633720832), (41, 1099511627776), (42, 2), (43, 256), (44, 13194139533312), (45, 19791209299968), (46, 35321811042304), (47, 128), (48, 211106232532992), (9, 281474976710656)] mixed (by kernel_rfl) rfl rfl) | (refine W.condA (ht := fun hb => ?_) (hf := fun hb => ?_) <;> (try simp at hb) <;> (try (exfalso; omega))))
  apply W.loopP (σ := Nat × List Int) 60 [0, 1] (fun (i, out) => i ≤ a.length ∧ MulI a b out i) (fun (i, out) => [(6, vI i), (5, (True, .slc 15))]) (fun (i, out) => [(15, ⟨3, 1, out.map Lf.encI⟩)]) (fun (i, out) => a.length - i) ((0, List.replicate (a.length + b.length) 0))
  case hp => repeat (first | exact Pick.nil | apply Pick.cons rfl)
  case h0 =>
    refine ⟨⟨by simp, by simp, Dig.rep _, by simp [val, val_rep], fun j hj hj2 => ?_⟩, ?_⟩
    · simp at hj2; simp [nth, hj2]
    exact Le.auto
  case round =>
    rintro ⟨i, out⟩ ⟨g1, g2⟩
    have g3 := g2.len
    dsimp only at g1 ⊢
    apply W.norm (by repeat (first | exact App.nil | apply App.cons))
    by_cases hi : i < a.length
    · have g5 := da.nth hi
      repeat' (first | ((first | apply U_ | (apply Ug_; exact rfl; exact rfl) | (apply Ugq_; exact rfl; exact rfl) | apply Lex.u | (apply Lex.g; exact rfl; exact rfl) | (apply Lex.gq; exact rfl; exact rfl)); (first | exact QX.B TYok | exact QX.Len TYok | exact QX.Idx TYok); exact rfl) | refine SX.Store TYok (h := ?_) | refine SX.Make TYok (h := ?_) | refine SC ?_ | refine SG ?_ | (apply W.draw2 (id := 9) [0, 0, 0, 6, 15, 31, 0, 0, 192, 448, 0, 0, 3072, 8128, 16383, 0, 65535, 131071] [[5], [6], [8], [33, 34], [32, 35], [36], [0], [6], [38, 39], [40], [1], [8], [42, 43], [41, 44], [37, 45], [7], [46, 47], [48]] 18 [(32, 32), (33, 64), (34, 256), (35, 25769803776), (36, 38654705664), (37, 68719476736), (38, 1), (39, 64), (40, 824633720832), (41, 1099511627776), (42, 2), (43, 256), (44, 13194139533312), (45, 19791209299968), (46, 35321811042304), (47, 128), (48, 211106232532992), (9, 281474976710656)] mixed (by kernel_rfl) rfl rfl) | (refine W.condA (ht := fun hb => ?_) (hf := fun hb => ?_) <;> (try simp at hb) <;> (try (exfalso; omega))))
      apply W.loopP (σ := Nat × Int × List Int) 60 [0, 1, 6] (fun (k, c, out) => k ≤ b.length + 1 ∧ TimK a b out i k c) (fun (k, c, out) => [(8, vI k), (7, vI c), (5, (True, .slc 15))]) (fun (k, c, out) => [(15, ⟨3, 1, out.map Lf.encI⟩)]) (fun (k, c, out) => b.length + 1 - k) ((0, 0, out))
      case hp => repeat (first | exact Pick.nil | apply Pick.cons rfl)
      case h0 =>
        refine ⟨⟨by simp, g2.len, g2.dig, by omega, fun q => by simp at q, by rw [g2.eq]; simp [val], fun _ => g2.high _ (by omega) (by omega), fun j hj hj2 => g2.high j (by omega) hj2⟩, ?_⟩
        exact Le.auto
      case round =>
        rintro ⟨k, c, out⟩ ⟨f1, f2⟩
        have f3 := f2.len
        have f4 := f2.c0
        have f8 := f2.top
        dsimp only at f1 ⊢
        apply W.norm (by repeat (first | exact App.nil | apply App.cons))
        by_cases hk : k < b.length ∨ 0 < c
        · have hk2 : k ≤ b.length := by omega
          have f5 := mul_le g5 (vj_dig db k)
          have f6 := f2.dig.nth (show i + k < out.length by omega)
          have f7 : 0 ≤ nth out ((i : Int) + (k : Int)).toNat ∧ nth out ((i : Int) + (k : Int)).toNat < 1048576 := f6
          repeat' (first | ((first | apply U_ | (apply Ug_; exact rfl; exact rfl) | (apply Ugq_; exact rfl; exact rfl) | apply Lex.u | (apply Lex.g; exact rfl; exact rfl) | (apply Lex.gq; exact rfl; exact rfl)); (first | exact QX.B TYok | exact QX.Len TYok | exact QX.Idx TYok | exact QCl (h2 k)); exact rfl) | refine SX.Store TYok (h := ?_) | refine SX.Make TYok (h := ?_) | refine SC ?_ | refine SG ?_ | (apply W.draw2 (id := 9) [0, 0, 0, 6, 15, 31, 0, 0, 192, 448, 0, 0, 3072, 8128, 16383, 0, 65535, 131071] [[5], [6], [8], [33, 34], [32, 35], [36], [0], [6], [38, 39], [40], [1], [8], [42, 43], [41, 44], [37, 45], [7], [46, 47], [48]] 18 [(32, 32), (33, 64), (34, 256), (35, 25769803776), (36, 38654705664), (37, 68719476736), (38, 1), (39, 64), (40, 824633720832), (41, 1099511627776), (42, 2), (43, 256), (44, 13194139533312), (45, 19791209299968), (46, 35321811042304), (47, 128), (48, 211106232532992), (9, 281474976710656)] mixed (by kernel_rfl) rfl rfl) | (refine W.condA (ht := fun hb => ?_) (hf := fun hb => ?_) <;> (try simp at hb) <;> (try (exfalso; omega))))
          · refine ⟨(k + 1, (nth out (i + k) + nth a i * vj b k + c) / 1048576, out.set (i + k) ((nth out (i + k) + nth a i * vj b k + c) % 1048576)), ⟨by omega, f2.step hi hk2 da db rfl⟩, ?_, by (try dsimp only); omega⟩
            exact Le.auto
          all_goals (exfalso; omega)
        · obtain rfl : c = 0 := by omega
          repeat' (first | ((first | apply U_ | (apply Ug_; exact rfl; exact rfl) | (apply Ugq_; exact rfl; exact rfl) | apply Lex.u | (apply Lex.g; exact rfl; exact rfl) | (apply Lex.gq; exact rfl; exact rfl)); (first | exact QX.B TYok | exact QX.Len TYok | exact QX.Idx TYok); exact rfl) | refine SX.Store TYok (h := ?_) | refine SX.Make TYok (h := ?_) | refine SC ?_ | refine SG ?_ | (apply W.draw2 (id := 9) [0, 0, 0, 6, 15, 31, 0, 0, 192, 448, 0, 0, 3072, 8128, 16383, 0, 65535, 131071] [[5], [6], [8], [33, 34], [32, 35], [36], [0], [6], [38, 39], [40], [1], [8], [42, 43], [41, 44], [37, 45], [7], [46, 47], [48]] 18 [(32, 32), (33, 64), (34, 256), (35, 25769803776), (36, 38654705664), (37, 68719476736), (38, 1), (39, 64), (40, 824633720832), (41, 1099511627776), (42, 2), (43, 256), (44, 13194139533312), (45, 19791209299968), (46, 35321811042304), (47, 128), (48, 211106232532992), (9, 281474976710656)] mixed (by kernel_rfl) rfl rfl) | (refine W.condA (ht := fun hb => ?_) (hf := fun hb => ?_) <;> (try simp at hb) <;> (try (exfalso; omega))))
          refine ⟨(i + 1, out), ⟨by omega, f2.done hi (by omega)⟩, ?_, by (try dsimp only); omega⟩
          exact Le.auto
    · obtain rfl : i = a.length := by omega
      have k1 := key out g2
      repeat' (first | (refine W.weaken (Le.freeze1 (m := 15) rfl) ?_; apply W.region (id := 12)) | ((first | apply U_ | (apply Ug_; exact rfl; exact rfl) | (apply Ugq_; exact rfl; exact rfl) | apply Lex.u | (apply Lex.g; exact rfl; exact rfl) | (apply Lex.gq; exact rfl; exact rfl)); (first | exact QX.B TYok | exact QX.Len TYok | exact QX.Idx TYok | exact QCd (k1)); exact rfl) | refine SX.Store TYok (h := ?_) | refine SX.Make TYok (h := ?_) | refine SC ?_ | refine SG ?_ | (apply W.draw2 (id := 9) [0, 0, 0, 6, 15, 31, 0, 0, 192, 448, 0, 0, 3072, 8128, 16383, 0, 65535, 131071] [[5], [6], [8], [33, 34], [32, 35], [36], [0], [6], [38, 39], [40], [1], [8], [42, 43], [41, 44], [37, 45], [7], [46, 47], [48]] 18 [(32, 32), (33, 64), (34, 256), (35, 25769803776), (36, 38654705664), (37, 68719476736), (38, 1), (39, 64), (40, 824633720832), (41, 1099511627776), (42, 2), (43, 256), (44, 13194139533312), (45, 19791209299968), (46, 35321811042304), (47, 128), (48, 211106232532992), (9, 281474976710656)] mixed (by kernel_rfl) rfl rfl) | (refine W.condA (ht := fun hb => ?_) (hf := fun hb => ?_) <;> (try simp at hb) <;> (try (exfalso; omega))))
      exact Fin.ret ResL.auto
theorem ShortI.step2 {a out : List Int} {d : Int} {i : Nat} {r q : Int} (h : ShortI a out d (i + 1) r) (hi : i < a.length) (ha : Dig a) (hd : 0 < d) (hq : q = (r * 1048576 + nth a i) / d) :
    ShortI a (out.set i q) d i ((r * 1048576 + nth a i) % d) := by
  subst hq
  have h1 := h.len
  have h2 := ha.nth hi
  have h3 := h.r0
  have h4 := h.eq
  have hq0 : 0 ≤ (r * 1048576 + nth a i) / d := Int.ediv_nonneg (by omega) (by omega)
  have hq1 : (r * 1048576 + nth a i) / d < 1048576 := Int.ediv_lt_of_lt_mul hd (by omega)
  refine ⟨by simp [h1], h.dig.set ⟨hq0, hq1⟩, ⟨Int.emod_nonneg _ (by omega), Int.emod_lt_of_pos _ hd⟩, ?_⟩
  rw [val_drop hi, val_drop (l := out.set i ((r * 1048576 + nth a i) / d)) (i := i) (by rw [List.length_set]; omega), nth_set_self (by omega), drop_set_gt]
  have h6 := Int.emod_add_mul_ediv (r * 1048576 + nth a i) d
  generalize (r * 1048576 + nth a i) % d = x at *
  generalize (r * 1048576 + nth a i) / d = y at *
  grind
theorem quo_between {x d lo hi : Int} (hd : 0 < d) (h1 : lo * d ≤ x) (h2 : x < hi * d) (h3 : hi - lo ≤ 1) (h4 : lo < hi) : lo = x / d ∧ x - d * lo = x % d := by
  obtain rfl : hi = lo + 1 := by omega
  have e : x / d = lo := by
    have a1 : lo ≤ x / d := (Int.le_ediv_iff_mul_le hd).2 h1
    have a2 : x / d < lo + 1 := Int.ediv_lt_of_lt_mul hd h2
    omega
  refine ⟨e.symm, ?_⟩
  have := Int.emod_add_mul_ediv x d
  rw [e] at this
  omega
theorem rover_ok (a b : List Int) (da : Dig a) (db : Dig b) (hl : a.length ≤ 1000000) (hl' : b.length ≤ 900000) (h0 : 0 < val b) : ACalls Try.prog 83 [slI a, slI b] (.tup [slI (digs (val a / val b)), slI (digs (val a % val b))]) := by
  have key : ∀ (out : List Int) (r : Int), ShortI a out (val b) 0 r → ACalls Try.prog 90 [slI out] (.pv (slI (digs (val a / val b)))) := fun out r h => by
    rw [← h.done.1]; exact rtrim_ok out (by rw [h.len]; omega)
  have k29 : ∀ x r : Int, 0 ≤ x → x < 1048576 → 0 ≤ r → r < val b → ACalls Try.prog 90 [slI (x :: digs r)] (.pv (slI (digs (r * 1048576 + x)))) := fun x r h1 h2 h3 h4 => by
    have hlr : (digs r).length ≤ b.length := (digs_len h3).2 (by have := val_hi db; omega)
    rw [← trim_eq (l := x :: digs r) (x := r * 1048576 + x) (Dig.cons ⟨h1, h2⟩ (digs_norm r).dig) (by rw [val, val_digs h3]; omega)]
    exact rtrim_ok _ (by simp; omega)
  have k42 : ∀ m : Int, 0 ≤ m → m < 1048576 → ACalls Try.prog 71 [slI b, slI [m]] (.pv (slI (digs (val b * m)))) := fun m h1 h2 => by
    have := rtimes_ok b [m] db (Dig.cons ⟨h1, h2⟩ Dig.nil) (by omega) (by simp)
    rwa [val_one] at this
  have k54 : ∀ m : Int, 0 ≤ m → m < 1048576 → ACalls Try.prog 90 [slI [m]] (.pv (slI (digs m))) := fun m h1 h2 => by
    rw [← trim_eq (l := [m]) (Dig.cons ⟨h1, h2⟩ Dig.nil) (val_one m)]
    exact rtrim_ok [m] (by simp)
  have k55 : ∀ m : Int, 0 ≤ m → m < 1048576 → ACalls Try.prog 71 [slI b, slI (digs m)] (.pv (slI (digs (val b * m)))) := fun m h1 h2 => by
    have := rtimes_ok b (digs m) db (digs_norm m).dig (by omega) (by have := (digs_len h1 (n := 1)).2 (by simpa [pw] using h2); omega)
    rwa [val_digs h1] at this
  have lp : ∀ y : Int, 0 ≤ y → y < 1048576 * val b → (digs y).length ≤ b.length + 1 := fun y h1 h2 => (digs_len h1).2 (by
    have := val_hi db
    have := pw_succ b.length
    omega)
  have k43 : ∀ x y : Int, 0 ≤ x → x < 1048576 * val b → 0 ≤ y → y < 1048576 * val b → ACalls Try.prog 73 [slI (digs x), slI (digs y)] (.pv (cB (decide (x < y)))) := fun x y h1 h2 h3 h4 => by
    have e1 := lp x h1 h2
    have e2 := lp y h3 h4
    have := rless_ok (digs x) (digs y) (digs_norm x).dig (digs_norm y).dig (by omega) (by omega)
    rwa [val_digs h1, val_digs h3] at this
  have k56 : ∀ x y : Int, 0 ≤ y → y ≤ x → x < 1048576 * val b → ACalls Try.prog 74 [slI (digs x), slI (digs y)] (.pv (slI (digs (x - y)))) := fun x y h1 h2 h3 => by
    have e1 := lp x (by omega) h3
    have := rminus_ok (digs x) (digs y) (digs_norm x).dig (digs_norm y).dig (by omega) (digs_mono h1 h2) (by rw [val_digs h1, val_digs (by omega)]; omega)
    rwa [val_digs h1, val_digs (by omega)] at this
  refine ACalls.of_W (qs := [slI (digs (val a / val b)), slI (digs (val a % val b))]) [4, 5] 60 Try.func83 (by kernel_rfl) rfl rfl rfl fun G => ?_
  refine W.initA (hw := ?_)
  repeat' (first | ((first | apply U_); (first | exact QX.B TYok | exact QX.Len TYok | exact QX.Idx TYok); exact rfl) | refine SX.Store TYok (h := ?_) | refine SX.Lit TYok (h := ?_) | refine SX.Make TYok (h := ?_) | refine SX.App TYok (h := ?_) | refine SC ?_ | (refine W.condA (ht := fun hb => ?_) (hf := fun hb => ?_) <;> (try simp at hb) <;> (try (exfalso; omega))))
  refine W.weaken (Le.sub (t := 7) (q := True) (p' := slI (digs 0)) rfl (by rw [digs_zero]; exact PSub.nil')) ?_
  apply W.loopP (σ := Nat × Int × List Int) 60 [0, 1] (fun (i, r, out) => i ≤ a.length ∧ ShortI a out (val b) i r) (fun (i, r, out) => [(8, vI ((i : Int) - 1)), (7, (True, .pv (slI (digs r)))), (6, (True, .slc 14))]) (fun (i, r, out) => [(14, ⟨3, 1, out.map Lf.encI⟩)]) (fun (i, r, out) => i) ((a.length, 0, List.replicate a.length 0))
  case hp => repeat (first | exact Pick.nil | apply Pick.cons rfl)
  case h0 =>
    refine ⟨⟨by simp, by simp, Dig.rep _, by omega, by simp [val]⟩, ?_⟩
    exact Le.auto
  case round =>
    rintro ⟨i, r, out⟩ ⟨g1, g2⟩
    have g3 := g2.len
    have g4 := g2.r0
    dsimp only at g1 g2 ⊢
    apply W.norm (by repeat (first | exact App.nil | apply App.cons))
    cases i with
    | succ i =>
      have hia : i < a.length := by omega
      have e1 : ((i + 1 : Nat) : Int) - 1 = i := by omega
      have g5 := da.nth hia
      rw [e1]
      have hlr : (digs r).length ≤ b.length := (digs_len g4.1).2 (by have := val_hi db; omega)
      have c29 := k29 (nth a i) r g5.1 g5.2 g4.1 g4.2
      have x0 : 0 ≤ r * 1048576 + nth a i := by omega
      have x1 : r * 1048576 + nth a i < 1048576 * val b := by omega
      repeat' (first | (refine RG.weaken (Le.freeze1 (m := 28) rfl) ?_) | ((first | apply U_); (first | exact QX.B TYok | exact QX.Len TYok | exact QX.Idx TYok | exact QCd (c29)); exact rfl) | refine SX.Store TYok (h := ?_) | refine SX.Lit TYok (h := ?_) | refine SX.Make TYok (h := ?_) | refine SX.App TYok (h := ?_) | refine SC ?_ | (refine W.condA (ht := fun hb => ?_) (hf := fun hb => ?_) <;> (try simp at hb) <;> (try (exfalso; omega))))
      apply W.loopP (σ := Int × Int) 60 [0, 1, 6, 7, 8] (fun (lo, hi) => 0 ≤ lo ∧ lo < hi ∧ hi ≤ 1048576 ∧ lo * val b ≤ r * 1048576 + nth a i ∧ r * 1048576 + nth a i < hi * val b) (fun (lo, hi) => [(9, vI lo), (10, vI hi)]) (fun _ => [(14, ⟨3, 1, out.map Lf.encI⟩)]) (fun (lo, hi) => (hi - lo).toNat) ((0, 1048576))
      case hp => repeat (first | exact Pick.nil | apply Pick.cons rfl)
      case h0 =>
        refine ⟨⟨by omega, by omega, by omega, by omega, by omega⟩, ?_⟩
        exact Le.auto
      case round =>
        rintro ⟨lo, hi⟩ ⟨f1, f2, f3, f4, f5⟩
        dsimp only at f1 f2 f3 f4 f5 ⊢
        apply W.norm (by repeat (first | exact App.nil | apply App.cons))
        by_cases hc : hi - lo > 1
        · have m1 : lo < (lo + hi) / 2 ∧ (lo + hi) / 2 < hi := by omega
          have c42 := k42 ((lo + hi) / 2) (by omega) (by omega)
          have hv : 0 ≤ val b * ((lo + hi) / 2) ∧ val b * ((lo + hi) / 2) < 1048576 * val b := by
            refine ⟨Int.mul_nonneg (by omega) (by omega), ?_⟩
            rw [Int.mul_comm]
            exact Int.mul_lt_mul_of_pos_right (by omega) h0
          have c43 := k43 (r * 1048576 + nth a i) (val b * ((lo + hi) / 2)) x0 x1 hv.1 hv.2
          repeat' (first | ((first | apply U_); (first | (apply Q_litD TYok; (repeat (first | exact EvR.nil | apply EvR.cons Ev.auto)); exact rfl; exact rfl; exact rfl; exact rfl; exact rfl; exact rfl) | exact QX.B TYok | exact QX.Len TYok | exact QX.Idx TYok | exact QCd (c42) | exact QCd (c43)); exact rfl) | refine SX.Store TYok (h := ?_) | refine SX.Lit TYok (h := ?_) | refine SX.Make TYok (h := ?_) | refine SX.App TYok (h := ?_) | refine SC ?_ | (refine W.condA (ht := fun hb => ?_) (hf := fun hb => ?_) <;> (try simp at hb) <;> (try (exfalso; omega))))
          · refine ⟨(lo, (lo + hi) / 2), ⟨by omega, by omega, by omega, f4, Int.mul_comm (val b) _ ▸ hb⟩, ?_, by (try dsimp only); omega⟩
            exact Le.auto
          · refine ⟨((lo + hi) / 2, hi), ⟨by omega, by omega, by omega, by rw [Int.mul_comm (_ : Int) (val b)]; dsimp only; omega, f5⟩, ?_, by (try dsimp only); omega⟩
            exact Le.auto
        · obtain ⟨e2, e3⟩ := quo_between h0 f4 f5 (by omega) f2
          have g6 := g2.step2 (q := lo) hia da h0 e2
          have c54 := k54 lo f1 (by omega)
          have c55 := k55 lo f1 (by omega)
          have c56 := k56 (r * 1048576 + nth a i) (val b * lo) (Int.mul_nonneg (by omega) f1) (by rw [Int.mul_comm]; exact f4) x1
          rw [e3] at c56
          repeat' (first | ((first | apply U_); (first | (apply Q_litD TYok; (repeat (first | exact EvR.nil | apply EvR.cons Ev.auto)); exact rfl; exact rfl; exact rfl; exact rfl; exact rfl; exact rfl) | exact QX.B TYok | exact QX.Len TYok | exact QX.Idx TYok | exact QCd (c54) | exact QCd (c55) | exact QCd (c56)); exact rfl) | refine SX.Store TYok (h := ?_) | refine SX.Lit TYok (h := ?_) | refine SX.Make TYok (h := ?_) | refine SX.App TYok (h := ?_) | refine SC ?_ | (refine W.condA (ht := fun hb => ?_) (hf := fun hb => ?_) <;> (try simp at hb) <;> (try (exfalso; omega))))
          refine ⟨(i, (r * 1048576 + nth a i) % val b, out.set i lo), ⟨by omega, g6⟩, ?_, by (try dsimp only); omega⟩
          exact Le.auto
    | zero =>
      have k1 := key out r g2
      repeat' (first | (refine W.weaken (Le.freeze1 (m := 14) rfl) ?_; apply W.region (id := 16)) | ((first | apply U_); (first | exact QX.B TYok | exact QX.Len TYok | exact QX.Idx TYok | exact QCd (k1)); exact rfl) | refine SX.Store TYok (h := ?_) | refine SX.Lit TYok (h := ?_) | refine SX.Make TYok (h := ?_) | refine SX.App TYok (h := ?_) | refine SC ?_ | (refine W.condA (ht := fun hb => ?_) (hf := fun hb => ?_) <;> (try simp at hb) <;> (try (exfalso; omega))))
      rw [← g2.done.2]
      exact Fin.ret ResL.auto
end Go.Proofs.Ytgpcmgjdkefdjaa
end
section
set_option linter.unusedVariables false
set_option linter.unusedSimpArgs false
set_option maxHeartbeats 8000000
namespace Go.Proofs.Ytgpcmgjdkefdjaa
open Lf Go
attribute [local irreducible] PureOp EffOp Ev RG W Then InBlock Lf.Fin nth App InitE Pick SubE EvL EvD EvP EvR ResL Lf.Lex SubR SubBR RA RAll EvC FinO FinM ResM ResD FinS val pw digs trimL
theorem norm_top {b : List Int} (nb : Norm b) (h : b ≠ []) : 0 < nth b (b.length - 1) ∧ nth b (b.length - 1) < 1048576 := by
  have h1 := nb.top
  rw [topD_nth b h] at h1
  have := nb.dig.nth (show b.length - 1 < b.length by have := List.length_pos_iff.2 h; omega)
  omega
theorem div_lt (a b : List Int) (na : Norm a) (nb : Norm b) (hl : a.length ≤ 100000) (hl' : b.length ≤ 100000) (hv : val a < val b) : ACalls Try.prog 85 [slI a, slI b] (.tup [slI (digs (val a / val b)), slI (digs (val a % val b))]) := by
  have h1 := compare_ok a b na nb (by omega) (by omega)
  rw [show cmpI (val a) (val b) = -1 from if_pos hv] at h1
  have h2 := clone_ok a (by omega)
  have h3 := val_lo na.dig
  rw [Int.ediv_eq_zero_of_lt h3 hv, Int.emod_eq_of_lt h3 hv, digs_zero, ← na.digs]
  refine ACalls.of_W (qs := [slI [], slI a]) [4, 5] 170 Try.func85 (by kernel_rfl) rfl rfl rfl fun G => ?_
  refine W.initA (hw := ?_)
  repeat' (first | ((first | apply U_ | (apply Ug_; exact rfl; exact rfl) | (apply Ugq_; exact rfl; exact rfl) | apply Lex.u | (apply Lex.g; exact rfl; exact rfl) | (apply Lex.gq; exact rfl; exact rfl)); (first | exact QX.B TYok | exact QX.Len TYok | exact QX.Idx TYok | exact QX.Ext TYok | exact QX.Cut TYok | exact QCl (h1)); exact rfl) | refine SX.Store TYok (h := ?_) | refine SX.Lit TYok (h := ?_) | refine SX.Make TYok (h := ?_) | refine SX.App TYok (h := ?_) | (apply S_callo (h2); exact rfl; exact rfl; exact rfl; exact EvD.auto) | refine SC ?_ | (apply S_isnil TYok; exact rfl; exact rfl; exact rfl; exact Ev.auto; intro bn hnil) | refine SG ?_ | (apply W.draw2 (id := 17) [0, 0, 0, 6, 15, 31, 63, 0, 0, 0, 768, 1792, 3968, 8064, 16383, 32767] [[9], [13], [11], [84, 85], [83, 86], [87], [88], [9], [13], [11], [91, 92], [93], [90, 94], [95], [89, 96], [97]] 16 [(83, 512), (84, 8192), (85, 2048), (86, 58028439341502200385896448), (87, 87042659012253300578844672), (88, 154742504910672534362390528), (89, 309485009821345068724781056), (90, 512), (91, 8192), (92, 2048), (93, 7427640235712281649394745344), (94, 9903520314283042199192993792), (95, 21044980667851464673285111808), (96, 39614081257132168796771975168), (97, 79847132533907027730993512448), (14, 158456325028528675187087900672)] mixed (by kernel_rfl) rfl rfl) | (apply W.draw2 (id := 18) [0, 0, 0, 4, 14, 30, 63, 0, 0, 0, 512, 1792, 3840, 8064, 127, 32767] [[14], [10], [11], [100], [99, 101], [102], [98, 103], [14], [10], [11], [107], [106, 108], [109], [105, 110], [104], [111]] 16 [(98, 16384), (99, 1024), (100, 2048), (101, 1267650600228229401496703205376), (102, 3169126500570573503741758013440), (103, 5070602400912917605986812821504), (104, 10458117451882892562347801444352), (105, 16384), (106, 1024), (107, 2048), (108, 162259276829213363391578010288128), (109, 405648192073033408478945025720320), (110, 649037107316853453566312041152512), (111, 1338639033841010247980518584877056), (15, 20282409603651670423947251286016), (16, 2596148429267413814265248164610048)] mixed (by kernel_rfl) rfl rfl) | (apply W.draw2 (id := 19) [0, 1, 3, 7, 15, 31, 63, 63, 63, 319, 959, 1983, 4095, 63, 8255, 63, 63, 63, 196671, 458815, 1015871, 2064447, 4186175, 8388607, 16777215, 33554431] [[15], [112], [113], [16, 114], [115, 114], [116, 114], [15, 117], [10, 117], [11, 117], [120, 117], [119, 121, 117], [122, 117], [118, 123, 117], [16, 117], [125, 117], [9, 117], [13, 117], [11, 117], [128, 129, 117], [130, 117], [127, 131, 117], [132, 117], [126, 133, 117], [124, 134, 117], [117, 135, 114], [114, 136]] 26 [(112, 32768), (113, 5192296858534827628530496329220096), (114, 10384593717069655257060992658440192), (115, 20769187434139310514121985316945920), (116, 62307562302417931542365955950641152), (117, 103845937170696552570609926584401920), (118, 166153499473114484112975882535075840), (119, 166153499473114484112975882535044096), (120, 166153499473114484112975882535045120), (121, 1495381495258030357016782942815387648), (122, 3489223488935404166372493533235904512), (123, 5483065482612777975728204123656421376), (124, 11132284464698670435569384129847885824), (125, 166153499473114484112975882535108608), (126, 42701449364590422417034801811506069504), (127, 166153499473114484112975882535043584), (128, 166153499473114484112975882535051264), (129, 166153499473114484112975882535045120), (130, 1021013254262288504874236798177839677440), (131, 1361295621183226968337611405609607888896), (132, 2892566272327450053922797139052564840448), (133, 5444684024234488529898106694790826426368), (134, 10974272486699738561177944065557059862528), (135, 21799505284372093430106548764480186089472), (136, 43556329888567030577106576849134182989824), (137, 87112306700947680785934413624517979013120)] mixed (by kernel_rfl) rfl rfl) | (refine W.condA (ht := fun hb => ?_) (hf := fun hb => ?_) <;> (try simp at hb) <;> (try (exfalso; omega))))
  exact Fin.ret ResL.auto
theorem cmp_ge {x y : Int} (h : y ≤ x) : 0 ≤ cmpI x y := by
  unfold cmpI; rw [if_neg (by omega)]; split <;> omega
theorem div_one (a b : List Int) (na : Norm a) (nb : Norm b) (hl : a.length ≤ 100000) (hl' : b.length = 1) (hv : val b ≤ val a) : ACalls Try.prog 85 [slI a, slI b] (.tup [slI (digs (val a / val b)), slI (digs (val a % val b))]) := by
  have h1 := compare_ok a b na nb (by omega) (by omega)
  have hc := cmp_ge hv
  generalize cmpI (val a) (val b) = c at h1 hc
  obtain ⟨d, rfl⟩ : ∃ d, b = [d] := by
    cases b with
    | nil => simp at hl'
    | cons d r => cases r with
      | nil => exact ⟨d, rfl⟩
      | cons x y => simp at hl'
  have hd := nb.dig.hd
  have ht := nb.top
  simp only [topD] at ht
  have h2 := short_ok a d na.dig (by omega) (by omega)
  rw [val_one]
  have hr := Int.emod_nonneg (val a) (show d ≠ 0 by omega)
  have hr2 := Int.emod_lt_of_pos (val a) (show 0 < d by omega)
  have h3 : ACalls Try.prog 94 [slI [val a % d]] (.pv (slI (digs (val a % d)))) := by
    rw [← trim_eq (l := [val a % d]) (Dig.cons (by omega) Dig.nil) (val_one _)]
    exact trim_ok _ (by simp)
  have e0 : nth [d] 0 = d := by simp [nth]
  generalize digs (val a / d) = q at h2 ⊢
  generalize val a % d = r at h2 h3 ⊢
  replace h2 : ACalls Try.prog 96 [slI a, cI (nth [d] 0)] (.tup [slI q, cI r]) := by rw [e0]; exact h2
  refine ACalls.of_W (qs := [slI q, slI (digs r)]) [4, 5] 170 Try.func85 (by kernel_rfl) rfl rfl rfl fun G => ?_
  refine W.initA (hw := ?_)
  repeat' (first | (refine RG.weaken (Le.freeze1 (m := 38) rfl) ?_) | ((first | apply U_ | (apply Ug_; exact rfl; exact rfl) | (apply Ugq_; exact rfl; exact rfl) | apply Lex.u | (apply Lex.g; exact rfl; exact rfl) | (apply Lex.gq; exact rfl; exact rfl)); (first | exact QX.B TYok | exact QX.Len TYok | exact QX.Idx TYok | exact QX.Ext TYok | exact QX.Cut TYok | exact QCl (h1) | exact QCd (h2) | exact QCd (h3)); exact rfl) | refine SX.Store TYok (h := ?_) | refine SX.Lit TYok (h := ?_) | refine SX.Make TYok (h := ?_) | refine SX.App TYok (h := ?_) | refine SC ?_ | (apply S_isnil TYok; exact rfl; exact rfl; exact rfl; exact Ev.auto; intro bn hnil) | refine SG ?_ | (apply W.draw2 (id := 17) [0, 0, 0, 6, 15, 31, 63, 0, 0, 0, 768, 1792, 3968, 8064, 16383, 32767] [[9], [13], [11], [84, 85], [83, 86], [87], [88], [9], [13], [11], [91, 92], [93], [90, 94], [95], [89, 96], [97]] 16 [(83, 512), (84, 8192), (85, 2048), (86, 58028439341502200385896448), (87, 87042659012253300578844672), (88, 154742504910672534362390528), (89, 309485009821345068724781056), (90, 512), (91, 8192), (92, 2048), (93, 7427640235712281649394745344), (94, 9903520314283042199192993792), (95, 21044980667851464673285111808), (96, 39614081257132168796771975168), (97, 79847132533907027730993512448), (14, 158456325028528675187087900672)] mixed (by kernel_rfl) rfl rfl) | (apply W.draw2 (id := 18) [0, 0, 0, 4, 14, 30, 63, 0, 0, 0, 512, 1792, 3840, 8064, 127, 32767] [[14], [10], [11], [100], [99, 101], [102], [98, 103], [14], [10], [11], [107], [106, 108], [109], [105, 110], [104], [111]] 16 [(98, 16384), (99, 1024), (100, 2048), (101, 1267650600228229401496703205376), (102, 3169126500570573503741758013440), (103, 5070602400912917605986812821504), (104, 10458117451882892562347801444352), (105, 16384), (106, 1024), (107, 2048), (108, 162259276829213363391578010288128), (109, 405648192073033408478945025720320), (110, 649037107316853453566312041152512), (111, 1338639033841010247980518584877056), (15, 20282409603651670423947251286016), (16, 2596148429267413814265248164610048)] mixed (by kernel_rfl) rfl rfl) | (apply W.draw2 (id := 19) [0, 1, 3, 7, 15, 31, 63, 63, 63, 319, 959, 1983, 4095, 63, 8255, 63, 63, 63, 196671, 458815, 1015871, 2064447, 4186175, 8388607, 16777215, 33554431] [[15], [112], [113], [16, 114], [115, 114], [116, 114], [15, 117], [10, 117], [11, 117], [120, 117], [119, 121, 117], [122, 117], [118, 123, 117], [16, 117], [125, 117], [9, 117], [13, 117], [11, 117], [128, 129, 117], [130, 117], [127, 131, 117], [132, 117], [126, 133, 117], [124, 134, 117], [117, 135, 114], [114, 136]] 26 [(112, 32768), (113, 5192296858534827628530496329220096), (114, 10384593717069655257060992658440192), (115, 20769187434139310514121985316945920), (116, 62307562302417931542365955950641152), (117, 103845937170696552570609926584401920), (118, 166153499473114484112975882535075840), (119, 166153499473114484112975882535044096), (120, 166153499473114484112975882535045120), (121, 1495381495258030357016782942815387648), (122, 3489223488935404166372493533235904512), (123, 5483065482612777975728204123656421376), (124, 11132284464698670435569384129847885824), (125, 166153499473114484112975882535108608), (126, 42701449364590422417034801811506069504), (127, 166153499473114484112975882535043584), (128, 166153499473114484112975882535051264), (129, 166153499473114484112975882535045120), (130, 1021013254262288504874236798177839677440), (131, 1361295621183226968337611405609607888896), (132, 2892566272327450053922797139052564840448), (133, 5444684024234488529898106694790826426368), (134, 10974272486699738561177944065557059862528), (135, 21799505284372093430106548764480186089472), (136, 43556329888567030577106576849134182989824), (137, 87112306700947680785934413624517979013120)] mixed (by kernel_rfl) rfl rfl) | (refine W.condA (ht := fun hb => ?_) (hf := fun hb => ?_) <;> (try simp at hb) <;> (try (exfalso; omega))))
  exact Fin.ret ResL.auto
theorem shift_le {x s : Int} (hx : 0 < x ∧ x < 1048576) (hs : 1 ≤ s ∧ s < 1048576) : x ≤ x * s ∧ s ≤ x * s ∧ x * s ≤ 1099509530625 := by
  have h1 := mul_le ⟨by omega, hx.2⟩ ⟨by omega, hs.2⟩
  have h2 : x * 1 ≤ x * s := Int.mul_le_mul_of_nonneg_left hs.1 (by omega)
  have h3 : 1 * s ≤ x * s := Int.mul_le_mul_of_nonneg_right (by omega) (by omega)
  omega
theorem shift_len {a : List Int} (na : Norm a) (ha : a ≠ []) {s : Int} (hs : 1 ≤ s ∧ s < 1048576) : (digs (val a * s)).length ≤ a.length + 1 ∧ a.length ≤ (digs (val a * s)).length ∧ val a ≤ val a * s := by
  have h0 := val_lo na.dig
  have h1 : val a * 1 ≤ val a * s := Int.mul_le_mul_of_nonneg_left hs.1 h0
  have h2 : val a * s ≤ val a * 1048576 := Int.mul_le_mul_of_nonneg_left (by omega) h0
  have h3 := val_hi na.dig
  have h4 := na.lo ha
  refine ⟨(digs_len (by omega)).2 (by rw [pw]; omega), ?_, by omega⟩
  have h5 := val_hi (digs_norm (val a * s)).dig
  rw [val_digs (by omega)] at h5
  have := pw_inj (show pw (a.length - 1) < pw (digs (val a * s)).length by omega)
  omega
theorem div_long (a b : List Int) (na : Norm a) (nb : Norm b) (hl : a.length ≤ 100000) (hb2 : 2 ≤ b.length) (hv : val b ≤ val a) : ACalls Try.prog 85 [slI a, slI b] (.tup [slI (digs (val a / val b)), slI (digs (val a % val b))]) := by
  have hbl : b.length ≤ a.length := by
    have h1 := nb.lo (by rintro rfl; simp at hb2)
    have h2 := val_hi na.dig
    have := pw_inj (show pw (b.length - 1) < pw a.length by omega)
    omega
  have h1 := compare_ok a b na nb (by omega) (by omega)
  have hc := cmp_ge hv
  generalize cmpI (val a) (val b) = c at h1 hc
  have hbt := norm_top nb (by rintro rfl; simp at hb2)
  refine ACalls.of_W (qs := [slI (digs (val a / val b)), slI (digs (val a % val b))]) [4, 5] 170 Try.func85 (by kernel_rfl) rfl rfl rfl fun G => ?_
  refine W.initA (hw := ?_)
  repeat' (first | ((first | apply U_ | (apply Ug_; exact rfl; exact rfl) | (apply Ugq_; exact rfl; exact rfl) | apply Lex.u | (apply Lex.g; exact rfl; exact rfl) | (apply Lex.gq; exact rfl; exact rfl)); (first | exact QX.B TYok | exact QX.Len TYok | exact QX.Idx TYok | exact QX.Ext TYok | exact QX.Cut TYok | exact QCl (h1)); exact rfl) | refine SX.Store TYok (h := ?_) | refine SX.Lit TYok (h := ?_) | refine SX.Make TYok (h := ?_) | refine SX.App TYok (h := ?_) | refine SC ?_ | (apply S_isnil TYok; exact rfl; exact rfl; exact rfl; exact Ev.auto; intro bn hnil) | refine SG ?_ | (apply W.draw2 (id := 17) [0, 0, 0, 6, 15, 31, 63, 0, 0, 0, 768, 1792, 3968, 8064, 16383, 32767] [[9], [13], [11], [84, 85], [83, 86], [87], [88], [9], [13], [11], [91, 92], [93], [90, 94], [95], [89, 96], [97]] 16 [(83, 512), (84, 8192), (85, 2048), (86, 58028439341502200385896448), (87, 87042659012253300578844672), (88, 154742504910672534362390528), (89, 309485009821345068724781056), (90, 512), (91, 8192), (92, 2048), (93, 7427640235712281649394745344), (94, 9903520314283042199192993792), (95, 21044980667851464673285111808), (96, 39614081257132168796771975168), (97, 79847132533907027730993512448), (14, 158456325028528675187087900672)] mixed (by kernel_rfl) rfl rfl) | (apply W.draw2 (id := 18) [0, 0, 0, 4, 14, 30, 63, 0, 0, 0, 512, 1792, 3840, 8064, 127, 32767] [[14], [10], [11], [100], [99, 101], [102], [98, 103], [14], [10], [11], [107], [106, 108], [109], [105, 110], [104], [111]] 16 [(98, 16384), (99, 1024), (100, 2048), (101, 1267650600228229401496703205376), (102, 3169126500570573503741758013440), (103, 5070602400912917605986812821504), (104, 10458117451882892562347801444352), (105, 16384), (106, 1024), (107, 2048), (108, 162259276829213363391578010288128), (109, 405648192073033408478945025720320), (110, 649037107316853453566312041152512), (111, 1338639033841010247980518584877056), (15, 20282409603651670423947251286016), (16, 2596148429267413814265248164610048)] mixed (by kernel_rfl) rfl rfl) | (apply W.draw2 (id := 19) [0, 1, 3, 7, 15, 31, 63, 63, 63, 319, 959, 1983, 4095, 63, 8255, 63, 63, 63, 196671, 458815, 1015871, 2064447, 4186175, 8388607, 16777215, 33554431] [[15], [112], [113], [16, 114], [115, 114], [116, 114], [15, 117], [10, 117], [11, 117], [120, 117], [119, 121, 117], [122, 117], [118, 123, 117], [16, 117], [125, 117], [9, 117], [13, 117], [11, 117], [128, 129, 117], [130, 117], [127, 131, 117], [132, 117], [126, 133, 117], [124, 134, 117], [117, 135, 114], [114, 136]] 26 [(112, 32768), (113, 5192296858534827628530496329220096), (114, 10384593717069655257060992658440192), (115, 20769187434139310514121985316945920), (116, 62307562302417931542365955950641152), (117, 103845937170696552570609926584401920), (118, 166153499473114484112975882535075840), (119, 166153499473114484112975882535044096), (120, 166153499473114484112975882535045120), (121, 1495381495258030357016782942815387648), (122, 3489223488935404166372493533235904512), (123, 5483065482612777975728204123656421376), (124, 11132284464698670435569384129847885824), (125, 166153499473114484112975882535108608), (126, 42701449364590422417034801811506069504), (127, 166153499473114484112975882535043584), (128, 166153499473114484112975882535051264), (129, 166153499473114484112975882535045120), (130, 1021013254262288504874236798177839677440), (131, 1361295621183226968337611405609607888896), (132, 2892566272327450053922797139052564840448), (133, 5444684024234488529898106694790826426368), (134, 10974272486699738561177944065557059862528), (135, 21799505284372093430106548764480186089472), (136, 43556329888567030577106576849134182989824), (137, 87112306700947680785934413624517979013120)] mixed (by kernel_rfl) rfl rfl) | (refine W.condA (ht := fun hb => ?_) (hf := fun hb => ?_) <;> (try simp at hb) <;> (try (exfalso; omega))))
  apply W.loopP (σ := Int) 170 [0, 1] (fun s => 1 ≤ s ∧ s < 1048576) (fun s => [(8, vI s)]) (fun _ => []) (fun s => (1048576 - s).toNat) (1)
  case hp => repeat (first | exact Pick.nil | apply Pick.cons rfl)
  case h0 =>
    refine ⟨by omega, ?_⟩
    exact Le.auto
  case round =>
    intro s hs
    have hs2 := shift_le hbt hs
    have hs3 : 0 ≤ nth b ((b.length : Int) - 1).toNat * s ∧ s ≤ nth b ((b.length : Int) - 1).toNat * s ∧ nth b ((b.length : Int) - 1).toNat * s ≤ 1099509530625 := by
      rw [show ((b.length : Int) - 1).toNat = b.length - 1 by omega]; omega
    have m1 := mul_own a [s] na.dig (Dig.cons (by omega) Dig.nil) (by omega) (by simp) (by simp)
    have m2 := mul_ok b [s] nb.dig (Dig.cons (by omega) Dig.nil) (by omega) (by simp)
    rw [val_one] at m1 m2
    have l1 := shift_len na (fun h => by rw [h] at hbl; simp only [List.length_nil] at hbl; omega) hs
    have l2 := shift_len nb (by rintro rfl; simp at hb2) hs
    have hrow : (digs (val a * s)).map Lf.encI ++ [[Cell.int .i64 0]] = (digs (val a * s) ++ [0]).map Lf.encI := by simp [Lf.encI]
    have hAV : val b * s ≤ val a * s := Int.mul_le_mul_of_nonneg_right hv (by omega)
    have dD := digs_norm (val a * s)
    have eD : val (digs (val a * s)) = val a * s := val_digs (by have := val_lo na.dig; omega)
    have dV := digs_norm (val b * s)
    have eV : val (digs (val b * s)) = val b * s := val_digs (by have := val_lo nb.dig; omega)
    generalize digs (val a * s) = D at *
    generalize digs (val b * s) = V at *
    have lVD : V.length ≤ D.length := by
      have := dV.lo (fun h => by rw [h, List.length_nil] at l2; omega)
      have := val_hi dD.dig
      have := pw_inj (show pw (V.length - 1) < pw D.length by omega)
      omega
    have hu : (D ++ [(0 : Int)]).length = D.length + 1 := by simp
    have hV2 : 2 ≤ V.length := by omega
    have hVpos := dV.pos (fun h => by rw [h, List.length_nil] at hV2; omega)
    have hVhi := val_hi dV.dig
    have hM : ∃ M : Nat, D.length + 1 = M + V.length := ⟨D.length + 1 - V.length, by omega⟩
    obtain ⟨M, hM⟩ := hM
    have hrl : (List.replicate M (0 : Int)).length = M := by simp
    have hrep : ∀ k : Nat, k = M → List.replicate k [Cell.int .i64 0] = (List.replicate M (0 : Int)).map Lf.encI := fun k hk => by subst hk; simp [Lf.encI]
    apply W.norm (by repeat (first | exact App.nil | apply App.cons))
    repeat' (first | (refine RG.weaken (Le.freeze1 (m := 53) rfl) ?_) | (refine RG.weaken (Le.freeze1 (m := 59) rfl) ?_) | (refine W.weaken (Le.rowsEq (n := 56) _ rfl rfl hrow) ?_; apply W.region (id := 10)) | (refine W.weaken (Le.rowsEq (n := 75) _ rfl rfl (hrep _ (by omega))) ?_; apply W.region (id := 14)) | ((first | apply U_ | (apply Ug_; exact rfl; exact rfl) | (apply Ugq_; exact rfl; exact rfl) | apply Lex.u | (apply Lex.g; exact rfl; exact rfl) | (apply Lex.gq; exact rfl; exact rfl)); (first | exact QX.B TYok | exact QX.Len TYok | exact QX.Idx TYok | exact QX.Ext TYok | exact QX.Cut TYok | exact QCd (m2)); exact rfl) | refine SX.Store TYok (h := ?_) | refine SX.Lit TYok (h := ?_) | refine SX.Make TYok (h := ?_) | refine SX.App TYok (h := ?_) | (apply S_callo (m1); exact rfl; exact rfl; exact rfl; exact EvD.auto) | refine SC ?_ | (apply S_isnil TYok; exact rfl; exact rfl; exact rfl; exact Ev.auto; intro bn hnil) | refine SG ?_ | (apply W.draw2 (id := 17) [0, 0, 0, 6, 15, 31, 63, 0, 0, 0, 768, 1792, 3968, 8064, 16383, 32767] [[9], [13], [11], [84, 85], [83, 86], [87], [88], [9], [13], [11], [91, 92], [93], [90, 94], [95], [89, 96], [97]] 16 [(83, 512), (84, 8192), (85, 2048), (86, 58028439341502200385896448), (87, 87042659012253300578844672), (88, 154742504910672534362390528), (89, 309485009821345068724781056), (90, 512), (91, 8192), (92, 2048), (93, 7427640235712281649394745344), (94, 9903520314283042199192993792), (95, 21044980667851464673285111808), (96, 39614081257132168796771975168), (97, 79847132533907027730993512448), (14, 158456325028528675187087900672)] mixed (by kernel_rfl) rfl rfl) | (apply W.draw2 (id := 18) [0, 0, 0, 4, 14, 30, 63, 0, 0, 0, 512, 1792, 3840, 8064, 127, 32767] [[14], [10], [11], [100], [99, 101], [102], [98, 103], [14], [10], [11], [107], [106, 108], [109], [105, 110], [104], [111]] 16 [(98, 16384), (99, 1024), (100, 2048), (101, 1267650600228229401496703205376), (102, 3169126500570573503741758013440), (103, 5070602400912917605986812821504), (104, 10458117451882892562347801444352), (105, 16384), (106, 1024), (107, 2048), (108, 162259276829213363391578010288128), (109, 405648192073033408478945025720320), (110, 649037107316853453566312041152512), (111, 1338639033841010247980518584877056), (15, 20282409603651670423947251286016), (16, 2596148429267413814265248164610048)] mixed (by kernel_rfl) rfl rfl) | (apply W.draw2 (id := 19) [0, 1, 3, 7, 15, 31, 63, 63, 63, 319, 959, 1983, 4095, 63, 8255, 63, 63, 63, 196671, 458815, 1015871, 2064447, 4186175, 8388607, 16777215, 33554431] [[15], [112], [113], [16, 114], [115, 114], [116, 114], [15, 117], [10, 117], [11, 117], [120, 117], [119, 121, 117], [122, 117], [118, 123, 117], [16, 117], [125, 117], [9, 117], [13, 117], [11, 117], [128, 129, 117], [130, 117], [127, 131, 117], [132, 117], [126, 133, 117], [124, 134, 117], [117, 135, 114], [114, 136]] 26 [(112, 32768), (113, 5192296858534827628530496329220096), (114, 10384593717069655257060992658440192), (115, 20769187434139310514121985316945920), (116, 62307562302417931542365955950641152), (117, 103845937170696552570609926584401920), (118, 166153499473114484112975882535075840), (119, 166153499473114484112975882535044096), (120, 166153499473114484112975882535045120), (121, 1495381495258030357016782942815387648), (122, 3489223488935404166372493533235904512), (123, 5483065482612777975728204123656421376), (124, 11132284464698670435569384129847885824), (125, 166153499473114484112975882535108608), (126, 42701449364590422417034801811506069504), (127, 166153499473114484112975882535043584), (128, 166153499473114484112975882535051264), (129, 166153499473114484112975882535045120), (130, 1021013254262288504874236798177839677440), (131, 1361295621183226968337611405609607888896), (132, 2892566272327450053922797139052564840448), (133, 5444684024234488529898106694790826426368), (134, 10974272486699738561177944065557059862528), (135, 21799505284372093430106548764480186089472), (136, 43556329888567030577106576849134182989824), (137, 87112306700947680785934413624517979013120)] mixed (by kernel_rfl) rfl rfl) | (refine W.condA (ht := fun hb => ?_) (hf := fun hb => ?_) <;> (try simp at hb) <;> (try (exfalso; omega))))
    · refine ⟨s * 2, by omega, ?_, by omega⟩
      exact Le.auto
    apply W.loopP (σ := Nat × List Int × List Int) 170 [] (fun (i, U, Q) => i ≤ M ∧ DivI (val a * s) (val V) V.length M U Q i) (fun (i, U, Q) => [(13, vI ((i : Int) - 1)), (8, vI s), (9, (True, .slc 56)), (10, (True, .pv (slI V))), (11, vI V.length), (12, (True, .slc 75))]) (fun (i, U, Q) => [(56, ⟨3, 1, U.map Lf.encI⟩), (75, ⟨3, 1, Q.map Lf.encI⟩)]) (fun (i, U, Q) => i) ((M, D ++ [0], List.replicate M 0))
    case hp => repeat (first | exact Pick.nil | apply Pick.cons rfl)
    case h0 =>
      refine ⟨⟨Nat.le_refl _, ⟨by omega, dD.dig.app (Dig.cons (by omega) Dig.nil), by simp, Dig.rep _, ?_, ?_⟩⟩, ?_⟩
      · rw [List.drop_append_of_le_length (by omega), val_app]
        have h3 := val_hi (dD.dig.drop M)
        rw [List.length_drop, show D.length - M = V.length - 1 by omega] at h3
        have h4 := dV.lo (fun h => by rw [h, List.length_nil] at hV2; omega)
        simp only [val]
        omega
      · rw [val_app, eD, List.drop_of_length_le (by simp)]
        simp [val]
      · exact Le.auto
    case round =>
      rintro ⟨i, U, Q⟩ ⟨g1, g2⟩
      dsimp only at g1 g2 ⊢
      have gU := g2.ulen
      have gQ := g2.qlen
      apply W.norm (by repeat (first | exact App.nil | apply App.cons))
      cases i with
      | succ k =>
        have e1 : ((k + 1 : Nat) : Int) - 1 = k := by omega
        have hk : k < M := by omega
        rw [e1]
        have hw := g2.win hk dV rfl hV2
        have hwin := g2.window hk hVhi
        have hsm := g2.small
        have hq0 : 0 ≤ val (U.drop k) / val V := Int.ediv_nonneg (val_lo (g2.udig.drop k)) (by omega)
        have hqB : val (U.drop k) / val V < 1048576 := by
          refine Int.ediv_lt_of_lt_mul hVpos ?_
          rw [val_drop (by omega)]
          have := g2.udig.nth (show k < U.length by omega)
          omega
        have hqm := Int.emod_add_mul_ediv (val (U.drop k)) (val V)
        have hqr := Int.emod_nonneg (val (U.drop k)) (show val V ≠ 0 by omega)
        have hqr2 := Int.emod_lt_of_pos (val (U.drop k)) hVpos
        rw [Int.mul_comm] at hqm
        generalize val (U.drop k) / val V = q at hq0 hqB hqm
        have hW1 : q * val V ≤ val (U.drop k) := by omega
        have hW2 : val (U.drop k) < q * val V + val V := by omega
        have ql := hw.lower hq0 hW1
        have d0 := g2.udig.nth (show k + V.length < U.length by omega)
        have d1 := g2.udig.nth (show k + V.length - 1 < U.length by omega)
        have d2 := hw.u2
        have d3 := hw.v1
        have d4 := hw.v2
        have i0 : ((k : Int) + (V.length : Int)).toNat = k + V.length := by omega
        have i1 : ((k : Int) + (V.length : Int) - 1).toNat = k + V.length - 1 := by omega
        have i2 : ((k : Int) + (V.length : Int) - 2).toNat = k + V.length - 2 := by omega
        have i3 : ((V.length : Int) - 1).toNat = V.length - 1 := by omega
        have i4 : ((V.length : Int) - 2).toNat = V.length - 2 := by omega
        have t0 : nth U ((k : Int) + (V.length : Int)).toNat = nth U (k + V.length) := by rw [i0]
        have t1 : nth U ((k : Int) + (V.length : Int) - 1).toNat = nth U (k + V.length - 1) := by rw [i1]
        have t2 : nth U ((k : Int) + (V.length : Int) - 2).toNat = nth U (k + V.length - 2) := by rw [i2]
        have t3 : nth V ((V.length : Int) - 1).toNat = nth V (V.length - 1) := by rw [i3]
        have t4 : nth V ((V.length : Int) - 2).toNat = nth V (V.length - 2) := by rw [i4]
        have hdm := Int.emod_add_mul_ediv (nth U (k + V.length) * 1048576 + nth U (k + V.length - 1)) (nth V (V.length - 1))
        have hd0 : 0 ≤ (nth U (k + V.length) * 1048576 + nth U (k + V.length - 1)) / nth V (V.length - 1) := Int.ediv_nonneg (by omega) (by omega)
        have hd1 : (nth U (k + V.length) * 1048576 + nth U (k + V.length - 1)) / nth V (V.length - 1) ≤ nth U (k + V.length) * 1048576 + nth U (k + V.length - 1) := Int.ediv_le_self _ (by omega)
        have hd2 : q ≤ (nth U (k + V.length) * 1048576 + nth U (k + V.length - 1)) / nth V (V.length - 1) := Int.le_ediv_of_mul_le d3.1 ql
        have hd3 := Int.emod_nonneg (nth U (k + V.length) * 1048576 + nth U (k + V.length - 1)) (show nth V (V.length - 1) ≠ 0 by omega)
        have hd4 := Int.emod_lt_of_pos (nth U (k + V.length) * 1048576 + nth U (k + V.length - 1)) d3.1
        repeat' (first | ((first | apply U_ | (apply Ug_; exact rfl; exact rfl) | (apply Ugq_; exact rfl; exact rfl) | apply Lex.u | (apply Lex.g; exact rfl; exact rfl) | (apply Lex.gq; exact rfl; exact rfl)); (first | (apply Q_or20; exact Ev.auto; exact Ev.auto; (intro hg; first | omega | (simp; omega) | (simp at hg; simp; omega))) | (apply Q_shl20; exact Ev.auto; (intro hg; first | omega | (simp; omega) | (simp at hg; simp; omega))) | (apply Q_shr20; exact Ev.auto) | (apply Q_and1; exact Ev.auto) | (apply Q_mask20; exact Ev.auto) | exact QX.B TYok | exact QX.Len TYok | exact QX.Idx TYok | exact QX.Ext TYok | exact QX.Cut TYok); exact rfl) | refine SX.Store TYok (h := ?_) | refine SX.Lit TYok (h := ?_) | refine SX.Make TYok (h := ?_) | refine SX.App TYok (h := ?_) | refine SC ?_ | (apply S_isnil TYok; exact rfl; exact rfl; exact rfl; exact Ev.auto; intro bn hnil) | refine SG ?_ | (apply W.draw2 (id := 17) [0, 0, 0, 6, 15, 31, 63, 0, 0, 0, 768, 1792, 3968, 8064, 16383, 32767] [[9], [13], [11], [84, 85], [83, 86], [87], [88], [9], [13], [11], [91, 92], [93], [90, 94], [95], [89, 96], [97]] 16 [(83, 512), (84, 8192), (85, 2048), (86, 58028439341502200385896448), (87, 87042659012253300578844672), (88, 154742504910672534362390528), (89, 309485009821345068724781056), (90, 512), (91, 8192), (92, 2048), (93, 7427640235712281649394745344), (94, 9903520314283042199192993792), (95, 21044980667851464673285111808), (96, 39614081257132168796771975168), (97, 79847132533907027730993512448), (14, 158456325028528675187087900672)] mixed (by kernel_rfl) rfl rfl) | (apply W.draw2 (id := 18) [0, 0, 0, 4, 14, 30, 63, 0, 0, 0, 512, 1792, 3840, 8064, 127, 32767] [[14], [10], [11], [100], [99, 101], [102], [98, 103], [14], [10], [11], [107], [106, 108], [109], [105, 110], [104], [111]] 16 [(98, 16384), (99, 1024), (100, 2048), (101, 1267650600228229401496703205376), (102, 3169126500570573503741758013440), (103, 5070602400912917605986812821504), (104, 10458117451882892562347801444352), (105, 16384), (106, 1024), (107, 2048), (108, 162259276829213363391578010288128), (109, 405648192073033408478945025720320), (110, 649037107316853453566312041152512), (111, 1338639033841010247980518584877056), (15, 20282409603651670423947251286016), (16, 2596148429267413814265248164610048)] mixed (by kernel_rfl) rfl rfl) | (apply W.draw2 (id := 19) [0, 1, 3, 7, 15, 31, 63, 63, 63, 319, 959, 1983, 4095, 63, 8255, 63, 63, 63, 196671, 458815, 1015871, 2064447, 4186175, 8388607, 16777215, 33554431] [[15], [112], [113], [16, 114], [115, 114], [116, 114], [15, 117], [10, 117], [11, 117], [120, 117], [119, 121, 117], [122, 117], [118, 123, 117], [16, 117], [125, 117], [9, 117], [13, 117], [11, 117], [128, 129, 117], [130, 117], [127, 131, 117], [132, 117], [126, 133, 117], [124, 134, 117], [117, 135, 114], [114, 136]] 26 [(112, 32768), (113, 5192296858534827628530496329220096), (114, 10384593717069655257060992658440192), (115, 20769187434139310514121985316945920), (116, 62307562302417931542365955950641152), (117, 103845937170696552570609926584401920), (118, 166153499473114484112975882535075840), (119, 166153499473114484112975882535044096), (120, 166153499473114484112975882535045120), (121, 1495381495258030357016782942815387648), (122, 3489223488935404166372493533235904512), (123, 5483065482612777975728204123656421376), (124, 11132284464698670435569384129847885824), (125, 166153499473114484112975882535108608), (126, 42701449364590422417034801811506069504), (127, 166153499473114484112975882535043584), (128, 166153499473114484112975882535051264), (129, 166153499473114484112975882535045120), (130, 1021013254262288504874236798177839677440), (131, 1361295621183226968337611405609607888896), (132, 2892566272327450053922797139052564840448), (133, 5444684024234488529898106694790826426368), (134, 10974272486699738561177944065557059862528), (135, 21799505284372093430106548764480186089472), (136, 43556329888567030577106576849134182989824), (137, 87112306700947680785934413624517979013120)] mixed (by kernel_rfl) rfl rfl) | (refine W.condA (ht := fun hb => ?_) (hf := fun hb => ?_) <;> (try simp at hb) <;> (try (exfalso; omega))))
        simp only [t0, t1, t3]
        generalize htop : nth U (k + V.length) * 1048576 + nth U (k + V.length - 1) = top at *
        generalize nth V (V.length - 1) = v1 at *
        apply W.loopP (σ := Int × Int) 170 [8, 10, 11, 13] (fun (g, r) => (g * v1 + r = top ∧ q ≤ g ∧ 0 ≤ r ∧ g ≤ 1099511627775)) (fun (g, r) => [(15, vI g), (16, vI r), (9, (True, .slc 56)), (12, (True, .slc 75))]) (fun (g, r) => [(56, ⟨3, 1, U.map Lf.encI⟩), (75, ⟨3, 1, Q.map Lf.encI⟩)]) (fun (g, r) => g.toNat) ((top / v1, top % v1))
        case hp => repeat (first | exact Pick.nil | apply Pick.cons rfl)
        case h0 =>
          refine ⟨⟨by rw [Int.mul_comm]; omega, hd2, hd3, by omega⟩, ?_⟩
          exact Le.auto
        case round =>
          rintro ⟨g, r⟩ ⟨f1, f2, f3, f4⟩
          dsimp only at f1 f2 f3 f4 ⊢
          have f5 : 0 ≤ g * v1 := Int.mul_nonneg (by omega) (by omega)
          have f6 : 0 ≤ g * nth V ((V.length : Int) - 2).toNat := Int.mul_nonneg (by omega) (by omega)
          have f7 : g * nth V ((V.length : Int) - 2).toNat ≤ g * 1048575 := Int.mul_le_mul_of_nonneg_left (by omega) (by omega)
          have hne : U.map Lf.encI ≠ [] := fun h => by
            have := congrArg List.length h
            simp at this; rw [this] at gU; simp at gU; omega
          apply W.norm (by repeat (first | exact App.nil | apply App.cons))
          have hs := settle_ok (U.take k) ((U.drop k).take (V.length + 1)) (U.drop (k + V.length + 1)) V g q ((g2.udig.drop k).take _) dV.dig
          have hU0 : U.take k ++ (U.drop k).take (V.length + 1) ++ U.drop (k + V.length + 1) = U := by
            rw [List.append_assoc, show k + V.length + 1 = k + (V.length + 1) by omega, ← List.drop_drop, List.take_append_drop, List.take_append_drop]
          have hl1 : ((U.drop k).take (V.length + 1)).length = V.length + 1 := by simp; omega
          have hl2 : (U.take k).length = k := by simp; omega
          rw [hU0, hl1, hl2, hwin] at hs
          have hs' := fun hg hq => hs rfl (by omega) hg hq (by omega)
          clear hs
          have hpart : ∀ bb cc : Nat, subV bb 1 ((k : Int)).toNat (((k : Int) + (V.length : Int) + 1).toNat - ((k : Int)).toNat) (cc - ((k : Int)).toNat) = subV bb 1 k (V.length + 1) (cc - k) := fun bb cc => by
            rw [show ((k : Int) + (V.length : Int) + 1).toNat - ((k : Int)).toNat = V.length + 1 by omega, show ((k : Int)).toNat = k by omega]
          have gS := g2.step hk hVhi hVpos ⟨hq0, hqB⟩ hW1 hW2
          have hlen : ((U.take k ++ digL (V.length + 1) (val (U.drop k) - q * val V) ++ U.drop (k + V.length + 1)).map Lf.encI).length = (U.map Lf.encI).length := by
            rw [List.length_map, List.length_map, gS.ulen, gU]
          generalize U.take k ++ digL (V.length + 1) (val (U.drop k) - q * val V) ++ U.drop (k + V.length + 1) = U' at hs' gS hlen
          have f9 : g * nth V ((V.length : Int) - 2).toNat = g * nth V (V.length - 2) := by rw [t4]
          have f8 : 0 ≤ g * nth V (V.length - 2) ∧ g * nth V (V.length - 2) ≤ g * 1048575 := by rw [← t4]; exact ⟨f6, f7⟩
          by_cases hcont : 1048576 ≤ g ∨ r < 1048576 ∧ r * 1048576 + nth U (k + V.length - 2) < g * nth V (V.length - 2)
          · have hdec : q ≤ g - 1 := by
              rcases hcont with h | h
              · omega
              · exact hw.dec hq0 hW1 f1 h.2
            repeat' (first | ((first | apply U_ | (apply Ug_; exact rfl; exact rfl) | (apply Ugq_; exact rfl; exact rfl) | apply Lex.u | (apply Lex.g; exact rfl; exact rfl) | (apply Lex.gq; exact rfl; exact rfl)); (first | (apply Q_or20; exact Ev.auto; exact Ev.auto; (intro hg; first | omega | (simp; omega) | (simp at hg; simp; omega))) | (apply Q_shl20; exact Ev.auto; (intro hg; first | omega | (simp; omega) | (simp at hg; simp; omega))) | (apply Q_shr20; exact Ev.auto) | (apply Q_and1; exact Ev.auto) | (apply Q_mask20; exact Ev.auto) | exact QX.B TYok | exact QX.Len TYok | exact QX.Idx TYok | exact QX.Ext TYok | exact QX.Cut TYok); exact rfl) | refine SX.Store TYok (h := ?_) | refine SX.Lit TYok (h := ?_) | refine SX.Make TYok (h := ?_) | refine SX.App TYok (h := ?_) | refine SC ?_ | (apply S_isnil TYok; exact rfl; exact rfl; exact rfl; exact Ev.auto; intro bn hnil) | refine SG ?_ | (apply W.draw2 (id := 17) [0, 0, 0, 6, 15, 31, 63, 0, 0, 0, 768, 1792, 3968, 8064, 16383, 32767] [[9], [13], [11], [84, 85], [83, 86], [87], [88], [9], [13], [11], [91, 92], [93], [90, 94], [95], [89, 96], [97]] 16 [(83, 512), (84, 8192), (85, 2048), (86, 58028439341502200385896448), (87, 87042659012253300578844672), (88, 154742504910672534362390528), (89, 309485009821345068724781056), (90, 512), (91, 8192), (92, 2048), (93, 7427640235712281649394745344), (94, 9903520314283042199192993792), (95, 21044980667851464673285111808), (96, 39614081257132168796771975168), (97, 79847132533907027730993512448), (14, 158456325028528675187087900672)] mixed (by kernel_rfl) rfl rfl) | (apply W.draw2 (id := 18) [0, 0, 0, 4, 14, 30, 63, 0, 0, 0, 512, 1792, 3840, 8064, 127, 32767] [[14], [10], [11], [100], [99, 101], [102], [98, 103], [14], [10], [11], [107], [106, 108], [109], [105, 110], [104], [111]] 16 [(98, 16384), (99, 1024), (100, 2048), (101, 1267650600228229401496703205376), (102, 3169126500570573503741758013440), (103, 5070602400912917605986812821504), (104, 10458117451882892562347801444352), (105, 16384), (106, 1024), (107, 2048), (108, 162259276829213363391578010288128), (109, 405648192073033408478945025720320), (110, 649037107316853453566312041152512), (111, 1338639033841010247980518584877056), (15, 20282409603651670423947251286016), (16, 2596148429267413814265248164610048)] mixed (by kernel_rfl) rfl rfl) | (apply W.draw2 (id := 19) [0, 1, 3, 7, 15, 31, 63, 63, 63, 319, 959, 1983, 4095, 63, 8255, 63, 63, 63, 196671, 458815, 1015871, 2064447, 4186175, 8388607, 16777215, 33554431] [[15], [112], [113], [16, 114], [115, 114], [116, 114], [15, 117], [10, 117], [11, 117], [120, 117], [119, 121, 117], [122, 117], [118, 123, 117], [16, 117], [125, 117], [9, 117], [13, 117], [11, 117], [128, 129, 117], [130, 117], [127, 131, 117], [132, 117], [126, 133, 117], [124, 134, 117], [117, 135, 114], [114, 136]] 26 [(112, 32768), (113, 5192296858534827628530496329220096), (114, 10384593717069655257060992658440192), (115, 20769187434139310514121985316945920), (116, 62307562302417931542365955950641152), (117, 103845937170696552570609926584401920), (118, 166153499473114484112975882535075840), (119, 166153499473114484112975882535044096), (120, 166153499473114484112975882535045120), (121, 1495381495258030357016782942815387648), (122, 3489223488935404166372493533235904512), (123, 5483065482612777975728204123656421376), (124, 11132284464698670435569384129847885824), (125, 166153499473114484112975882535108608), (126, 42701449364590422417034801811506069504), (127, 166153499473114484112975882535043584), (128, 166153499473114484112975882535051264), (129, 166153499473114484112975882535045120), (130, 1021013254262288504874236798177839677440), (131, 1361295621183226968337611405609607888896), (132, 2892566272327450053922797139052564840448), (133, 5444684024234488529898106694790826426368), (134, 10974272486699738561177944065557059862528), (135, 21799505284372093430106548764480186089472), (136, 43556329888567030577106576849134182989824), (137, 87112306700947680785934413624517979013120)] mixed (by kernel_rfl) rfl rfl) | (refine W.condA (ht := fun hb => ?_) (hf := fun hb => ?_) <;> (try simp at hb) <;> (try (exfalso; omega))))
            · refine ⟨(g - 1, r + v1), ⟨?_, by omega, by omega, by omega⟩, ?_, by (try simp only); omega⟩
              · rw [Int.sub_mul]; omega
              · simp only [t3]
                exact Le.auto
            all_goals (exfalso; omega)
          · have hup : g ≤ q + 1 := by
              refine hw.upper hq0 hW2 f1 (by omega) ?_
              by_cases h : r < 1048576
              · omega
              · omega
            have hs2 := hs' ⟨by omega, by omega⟩ ⟨f2, hup⟩
            repeat' (first | (apply W.region (id := 22); refine RG.place (t := 9) (n := 56) rfl rfl (fun bb cc => ?_) (fun hnil => (hne hnil).elim)) | ((first | apply U_ | (apply Ug_; exact rfl; exact rfl) | (apply Ugq_; exact rfl; exact rfl) | apply Lex.u | (apply Lex.g; exact rfl; exact rfl) | (apply Lex.gq; exact rfl; exact rfl)); (first | (apply Q_or20; exact Ev.auto; exact Ev.auto; (intro hg; first | omega | (simp; omega) | (simp at hg; simp; omega))) | (apply Q_shl20; exact Ev.auto; (intro hg; first | omega | (simp; omega) | (simp at hg; simp; omega))) | (apply Q_shr20; exact Ev.auto) | (apply Q_and1; exact Ev.auto) | (apply Q_mask20; exact Ev.auto) | exact QX.B TYok | exact QX.Len TYok | exact QX.Idx TYok | exact QX.Ext TYok | exact QX.Cut TYok | (apply Q_partV TYok; exact Ev.auto; exact Ev.auto; exact Ev.auto; exact rfl; exact rfl; exact rfl; exact rfl; (intro hg; simp; omega))); exact rfl) | refine SX.Store TYok (h := ?_) | refine SX.Lit TYok (h := ?_) | refine SX.Make TYok (h := ?_) | refine SX.App TYok (h := ?_) | (apply S_callsub hs2; exact Ev.auto; exact hpart _ _; exact rfl; exact rfl; exact EvD.auto; exact hlen) | refine SC ?_ | (apply S_isnil TYok; exact rfl; exact rfl; exact rfl; exact Ev.auto; intro bn hnil) | refine SG ?_ | (apply W.draw2 (id := 17) [0, 0, 0, 6, 15, 31, 63, 0, 0, 0, 768, 1792, 3968, 8064, 16383, 32767] [[9], [13], [11], [84, 85], [83, 86], [87], [88], [9], [13], [11], [91, 92], [93], [90, 94], [95], [89, 96], [97]] 16 [(83, 512), (84, 8192), (85, 2048), (86, 58028439341502200385896448), (87, 87042659012253300578844672), (88, 154742504910672534362390528), (89, 309485009821345068724781056), (90, 512), (91, 8192), (92, 2048), (93, 7427640235712281649394745344), (94, 9903520314283042199192993792), (95, 21044980667851464673285111808), (96, 39614081257132168796771975168), (97, 79847132533907027730993512448), (14, 158456325028528675187087900672)] mixed (by kernel_rfl) rfl rfl) | (apply W.draw2 (id := 18) [0, 0, 0, 4, 14, 30, 63, 0, 0, 0, 512, 1792, 3840, 8064, 127, 32767] [[14], [10], [11], [100], [99, 101], [102], [98, 103], [14], [10], [11], [107], [106, 108], [109], [105, 110], [104], [111]] 16 [(98, 16384), (99, 1024), (100, 2048), (101, 1267650600228229401496703205376), (102, 3169126500570573503741758013440), (103, 5070602400912917605986812821504), (104, 10458117451882892562347801444352), (105, 16384), (106, 1024), (107, 2048), (108, 162259276829213363391578010288128), (109, 405648192073033408478945025720320), (110, 649037107316853453566312041152512), (111, 1338639033841010247980518584877056), (15, 20282409603651670423947251286016), (16, 2596148429267413814265248164610048)] mixed (by kernel_rfl) rfl rfl) | (apply W.draw2 (id := 19) [0, 1, 3, 7, 15, 31, 63, 63, 63, 319, 959, 1983, 4095, 63, 8255, 63, 63, 63, 196671, 458815, 1015871, 2064447, 4186175, 8388607, 16777215, 33554431] [[15], [112], [113], [16, 114], [115, 114], [116, 114], [15, 117], [10, 117], [11, 117], [120, 117], [119, 121, 117], [122, 117], [118, 123, 117], [16, 117], [125, 117], [9, 117], [13, 117], [11, 117], [128, 129, 117], [130, 117], [127, 131, 117], [132, 117], [126, 133, 117], [124, 134, 117], [117, 135, 114], [114, 136]] 26 [(112, 32768), (113, 5192296858534827628530496329220096), (114, 10384593717069655257060992658440192), (115, 20769187434139310514121985316945920), (116, 62307562302417931542365955950641152), (117, 103845937170696552570609926584401920), (118, 166153499473114484112975882535075840), (119, 166153499473114484112975882535044096), (120, 166153499473114484112975882535045120), (121, 1495381495258030357016782942815387648), (122, 3489223488935404166372493533235904512), (123, 5483065482612777975728204123656421376), (124, 11132284464698670435569384129847885824), (125, 166153499473114484112975882535108608), (126, 42701449364590422417034801811506069504), (127, 166153499473114484112975882535043584), (128, 166153499473114484112975882535051264), (129, 166153499473114484112975882535045120), (130, 1021013254262288504874236798177839677440), (131, 1361295621183226968337611405609607888896), (132, 2892566272327450053922797139052564840448), (133, 5444684024234488529898106694790826426368), (134, 10974272486699738561177944065557059862528), (135, 21799505284372093430106548764480186089472), (136, 43556329888567030577106576849134182989824), (137, 87112306700947680785934413624517979013120)] mixed (by kernel_rfl) rfl rfl) | (refine W.condA (ht := fun hb => ?_) (hf := fun hb => ?_) <;> (try simp at hb) <;> (try (exfalso; omega))))
            refine ⟨(k, U', Q.set k q), ⟨by (try simp only); omega, gS⟩, Le.trans (Le.unplace (t := 9) (n := 56) (b := bb) (c := cc) rfl) ?_, by (try simp only); omega⟩
            exact Le.auto
      | zero =>
        have hsm := g2.small
        have heq := g2.eq
        rw [List.drop_zero] at hsm heq
        simp only [pw, Int.one_mul] at heq
        have hU0 := val_lo g2.udig
        have t1 : ACalls Try.prog 94 [slI U] (.pv (slI (digs (val U)))) := by
          rw [← trim_digs g2.udig]; exact trim_ok U (by omega)
        have t2 : ACalls Try.prog 94 [slI Q] (.pv (slI (digs (val Q)))) := by
          rw [← trim_digs g2.qdig]; exact trim_ok Q (by omega)
        have lU : (digs (val U)).length ≤ 1000000 := by
          have := trimL_len U
          rw [trim_digs g2.udig] at this; omega
        have t3 := short_ok (digs (val U)) s (digs_norm _).dig (by omega) lU
        rw [val_digs hU0] at t3
        have hb0 : 0 < val b := nb.pos (fun h => by rw [h, List.length_nil] at hb2; omega)
        have hmr := Int.emod_add_mul_ediv (val a) (val b)
        have hr0 := Int.emod_nonneg (val a) (show val b ≠ 0 by omega)
        have hr1 := Int.emod_lt_of_pos (val a) hb0
        have e1 : val Q = val a / val b := by
          have h3 : val a * s / (val b * s) = val a / val b := Int.mul_ediv_mul_of_pos_left _ _ (by omega)
          rw [← h3, heq, ← eV, Int.add_mul_ediv_left _ _ (by omega), Int.ediv_eq_zero_of_lt hU0 hsm]; omega
        have e2 : val U = (val a % val b) * s := by
          rw [e1, eV] at heq
          have h3 : val a * s = (val a % val b + val b * (val a / val b)) * s := by rw [hmr]
          generalize val a % val b = x at *
          generalize val a / val b = y at *
          have h4 : (x + val b * y) * s = x * s + val b * s * y := by grind
          omega
        have e3 : val U / s = val a % val b := by rw [e2, Int.mul_ediv_cancel _ (by omega)]
        rw [e3] at t3
        rw [e1] at t2
        generalize val U % s = rr at t3
        generalize val a / val b = y at t2 ⊢
        generalize val a % val b = x at t3 ⊢
        generalize digs (val U) = W' at t1 t3
        repeat' (first | (refine W.weaken Le.freeze ?_; apply W.region (id := 23)) | ((first | apply U_ | (apply Ug_; exact rfl; exact rfl) | (apply Ugq_; exact rfl; exact rfl) | apply Lex.u | (apply Lex.g; exact rfl; exact rfl) | (apply Lex.gq; exact rfl; exact rfl)); (first | (apply Q_or20; exact Ev.auto; exact Ev.auto; (intro hg; first | omega | (simp; omega) | (simp at hg; simp; omega))) | (apply Q_shl20; exact Ev.auto; (intro hg; first | omega | (simp; omega) | (simp at hg; simp; omega))) | (apply Q_shr20; exact Ev.auto) | (apply Q_and1; exact Ev.auto) | (apply Q_mask20; exact Ev.auto) | exact QX.B TYok | exact QX.Len TYok | exact QX.Idx TYok | exact QX.Ext TYok | exact QX.Cut TYok | exact QCd (t1) | exact QCd (t2) | exact QCd (t3)); exact rfl) | refine SX.Store TYok (h := ?_) | refine SX.Lit TYok (h := ?_) | refine SX.Make TYok (h := ?_) | refine SX.App TYok (h := ?_) | refine SC ?_ | (apply S_isnil TYok; exact rfl; exact rfl; exact rfl; exact Ev.auto; intro bn hnil) | refine SG ?_ | (apply W.draw2 (id := 17) [0, 0, 0, 6, 15, 31, 63, 0, 0, 0, 768, 1792, 3968, 8064, 16383, 32767] [[9], [13], [11], [84, 85], [83, 86], [87], [88], [9], [13], [11], [91, 92], [93], [90, 94], [95], [89, 96], [97]] 16 [(83, 512), (84, 8192), (85, 2048), (86, 58028439341502200385896448), (87, 87042659012253300578844672), (88, 154742504910672534362390528), (89, 309485009821345068724781056), (90, 512), (91, 8192), (92, 2048), (93, 7427640235712281649394745344), (94, 9903520314283042199192993792), (95, 21044980667851464673285111808), (96, 39614081257132168796771975168), (97, 79847132533907027730993512448), (14, 158456325028528675187087900672)] mixed (by kernel_rfl) rfl rfl) | (apply W.draw2 (id := 18) [0, 0, 0, 4, 14, 30, 63, 0, 0, 0, 512, 1792, 3840, 8064, 127, 32767] [[14], [10], [11], [100], [99, 101], [102], [98, 103], [14], [10], [11], [107], [106, 108], [109], [105, 110], [104], [111]] 16 [(98, 16384), (99, 1024), (100, 2048), (101, 1267650600228229401496703205376), (102, 3169126500570573503741758013440), (103, 5070602400912917605986812821504), (104, 10458117451882892562347801444352), (105, 16384), (106, 1024), (107, 2048), (108, 162259276829213363391578010288128), (109, 405648192073033408478945025720320), (110, 649037107316853453566312041152512), (111, 1338639033841010247980518584877056), (15, 20282409603651670423947251286016), (16, 2596148429267413814265248164610048)] mixed (by kernel_rfl) rfl rfl) | (apply W.draw2 (id := 19) [0, 1, 3, 7, 15, 31, 63, 63, 63, 319, 959, 1983, 4095, 63, 8255, 63, 63, 63, 196671, 458815, 1015871, 2064447, 4186175, 8388607, 16777215, 33554431] [[15], [112], [113], [16, 114], [115, 114], [116, 114], [15, 117], [10, 117], [11, 117], [120, 117], [119, 121, 117], [122, 117], [118, 123, 117], [16, 117], [125, 117], [9, 117], [13, 117], [11, 117], [128, 129, 117], [130, 117], [127, 131, 117], [132, 117], [126, 133, 117], [124, 134, 117], [117, 135, 114], [114, 136]] 26 [(112, 32768), (113, 5192296858534827628530496329220096), (114, 10384593717069655257060992658440192), (115, 20769187434139310514121985316945920), (116, 62307562302417931542365955950641152), (117, 103845937170696552570609926584401920), (118, 166153499473114484112975882535075840), (119, 166153499473114484112975882535044096), (120, 166153499473114484112975882535045120), (121, 1495381495258030357016782942815387648), (122, 3489223488935404166372493533235904512), (123, 5483065482612777975728204123656421376), (124, 11132284464698670435569384129847885824), (125, 166153499473114484112975882535108608), (126, 42701449364590422417034801811506069504), (127, 166153499473114484112975882535043584), (128, 166153499473114484112975882535051264), (129, 166153499473114484112975882535045120), (130, 1021013254262288504874236798177839677440), (131, 1361295621183226968337611405609607888896), (132, 2892566272327450053922797139052564840448), (133, 5444684024234488529898106694790826426368), (134, 10974272486699738561177944065557059862528), (135, 21799505284372093430106548764480186089472), (136, 43556329888567030577106576849134182989824), (137, 87112306700947680785934413624517979013120)] mixed (by kernel_rfl) rfl rfl) | (refine W.condA (ht := fun hb => ?_) (hf := fun hb => ?_) <;> (try simp at hb) <;> (try (exfalso; omega))))
        exact Fin.ret ResL.auto
theorem div_ok (a b : List Int) (na : Norm a) (nb : Norm b) (hl : a.length ≤ 100000) (hl' : b.length ≤ 100000) (hb : b ≠ []) : ACalls Try.prog 85 [slI a, slI b] (.tup [slI (digs (val a / val b)), slI (digs (val a % val b))]) := by
  by_cases h : val a < val b
  · exact div_lt a b na nb hl hl' h
  · have := List.length_pos_iff.2 hb
    by_cases h2 : b.length = 1
    · exact div_one a b na nb hl h2 (by omega)
    · exact div_long a b na nb hl (by omega) (by omega)
end Go.Proofs.Ytgpcmgjdkefdjaa
end
section
set_option linter.unusedVariables false
set_option linter.unusedSimpArgs false
set_option maxHeartbeats 8000000
namespace Go.Proofs.Ytgpcmgjdkefdjaa
open Lf Go
attribute [local irreducible] PureOp EffOp Ev RG W Then InBlock Lf.Fin nth App InitE Pick SubE EvL EvD EvP EvR ResL Lf.Lex SubR SubBR RA RAll EvC FinO FinM ResM ResD FinS val pw digs trimL
theorem right_ok (s : Int) (l : List Int) (hl : l.length ≤ 1000000) : ACalls Try.prog 62 [aB s l] (.pv (cB (rightB s l))) := by
  refine ACalls.of_W (qs := [cB (rightB s l)]) [2] 49 Try.func62 (by kernel_rfl) rfl rfl rfl fun G => ?_
  refine W.initA (hw := ?_)
  repeat' (first | ((first | apply U_ | (apply Ug_; exact rfl; exact rfl) | (apply Ugq_; exact rfl; exact rfl)); (first | exact QX.B TYok | exact QX.Len TYok | exact QX.Idx TYok); exact rfl) | refine SX.Box TYok (h := ?_) | refine SC ?_ | (apply S_isnil TYok; exact rfl; exact rfl; exact rfl; exact Ev.auto; intro bn hnil) | refine SG ?_ | (refine W.condA (ht := fun hb => ?_) (hf := fun hb => ?_) <;> (try simp at hb) <;> (try (exfalso; omega))))
  apply W.loopP (σ := Nat) 49 [1, 3, 10, 11] (fun k => k ≤ l.length ∧ l.all digB = (l.drop k).all digB) (fun k => [(12, vI k)]) (fun _ => [(1, ⟨29, 2, [[.int .i64 s, .sl (l.map Lf.encI)]]⟩)]) (fun k => l.length - k) (0)
  case hp => repeat (first | exact Pick.nil | apply Pick.cons rfl)
  case h0 =>
    refine ⟨by simp, ?_⟩
    exact Le.auto
  case round =>
    rintro k ⟨g1, g2⟩
    apply W.norm (by repeat (first | exact App.nil | apply App.cons))
    by_cases hk : k < l.length
    · have e : l.all digB = (digB (nth l k) && (l.drop (k + 1)).all digB) := by rw [g2, drop_nth hk, List.all_cons]
      repeat' (first | ((first | apply U_ | (apply Ug_; exact rfl; exact rfl) | (apply Ugq_; exact rfl; exact rfl)); (first | exact QX.B TYok | exact QX.Len TYok | exact QX.Idx TYok); exact rfl) | refine SX.Box TYok (h := ?_) | refine SC ?_ | (apply S_isnil TYok; exact rfl; exact rfl; exact rfl; exact Ev.auto; intro bn hnil) | refine SG ?_ | (refine W.condA (ht := fun hb => ?_) (hf := fun hb => ?_) <;> (try simp at hb) <;> (try (exfalso; omega))))
      · have e2 : rightB s l = false := by
          rw [rightB, e, show digB (nth l k) = false by
            simp only [digB, Bool.and_eq_false_iff, decide_eq_false_iff_not]; omega]; rfl
        rw [e2]
        exact Fin.ret ResL.auto
      · refine ⟨k + 1, ⟨by omega, ?_⟩, ?_, by omega⟩
        · rw [e, show digB (nth l k) = true by
            simp only [digB, Bool.and_eq_true, decide_eq_true_iff]; omega]; rfl
        · exact Le.auto
    · obtain rfl : k = l.length := by omega
      have e : l.all digB = true := by rw [g2, List.drop_length]; rfl
      by_cases h0 : l.length = 0
      · have e2 : rightB s l = decide (s = 0) := by rw [rightB, e, if_pos h0]; rfl
        repeat' (first | ((first | apply U_ | (apply Ug_; exact rfl; exact rfl) | (apply Ugq_; exact rfl; exact rfl)); (first | exact QX.B TYok | exact QX.Len TYok | exact QX.Idx TYok); exact rfl) | refine SX.Box TYok (h := ?_) | refine SC ?_ | (apply S_isnil TYok; exact rfl; exact rfl; exact rfl; exact Ev.auto; intro bn hnil) | refine SG ?_ | (refine W.condA (ht := fun hb => ?_) (hf := fun hb => ?_) <;> (try simp at hb) <;> (try (exfalso; omega))))
        · rw [e2]
          exact Fin.ret ResL.auto
        · exact absurd (List.length_eq_zero_iff.1 h0) hb
      · have e2 : rightB s l = ((decide (s = 1) || decide (s = -1)) && decide ((l.length : Int) ≤ 60) && !decide (nth l ((l.length : Int) - 1).toNat = 0)) := by
          rw [rightB, e, if_neg h0, show ((l.length : Int) - 1).toNat = l.length - 1 by omega, show decide (l.length ≤ 60) = decide ((l.length : Int) ≤ 60) from decide_eq_decide.2 (by omega)]; rfl
        repeat' (first | ((first | apply U_ | (apply Ug_; exact rfl; exact rfl) | (apply Ugq_; exact rfl; exact rfl)); (first | exact QX.B TYok | exact QX.Len TYok | exact QX.Idx TYok); exact rfl) | refine SX.Box TYok (h := ?_) | refine SC ?_ | (apply S_isnil TYok; exact rfl; exact rfl; exact rfl; exact Ev.auto; intro bn hnil) | refine SG ?_ | (refine W.condA (ht := fun hb => ?_) (hf := fun hb => ?_) <;> (try simp at hb) <;> (try (exfalso; omega))))
        · exact absurd (by rw [hb]; rfl) h0
        · rw [e2]
          exact Fin.ret ResL.auto
theorem right_yes {x : Int} (h : okZ x) : ACalls Try.prog 62 [zB x] (.pv (cB true)) := by
  rw [← num_right h]; exact right_ok _ _ (by have := num_len h; omega)
theorem signed_ok (s : Int) (l : List Int) (dl : Dig l) (hl : l.length ≤ 1000000) (z : Int) (hs : s = 1 ∨ s = -1 ∨ val l = 0) (hz : z = s * val l) : ACalls Try.prog 79 [cI s, slI l] (.pv (zB z)) := by
  obtain ⟨e1, e2⟩ := num_of (val_lo dl) hs hz
  have h1 := trim_ok l (by omega)
  rw [trim_digs dl] at h1
  rw [show zB z = aB (if val l = 0 then 0 else s) (digs (val l)) by rw [zB, e1, e2]]
  have h3 : (digs (val l)).length = 0 ↔ val l = 0 := by rw [List.length_eq_zero_iff, digs_nil (val_lo dl)]
  have h4 : (digs (val l)).length ≤ l.length := by rw [← trim_digs dl]; exact trimL_len l
  generalize digs (val l) = D at *
  refine ACalls.of_M TYok (qs := [aB (if val l = 0 then 0 else s) D]) [.cell 4 29] 14 Try.func79 (by kernel_rfl) rfl rfl rfl fun G => ?_
  refine W.initA (hw := ?_)
  repeat' (first | ((first | apply U_); (first | exact QX.B TYok | exact QX.Len TYok | exact QX.Build TYok | exact QCd (h1)); exact rfl) | refine SX.Alloc TYok (h := ?_) | refine SX.Store TYok (h := ?_) | refine SC ?_ | (apply S_isnil TYok; exact rfl; exact rfl; exact rfl; exact Ev.auto; intro bn hnil) | (refine W.condA (ht := fun hb => ?_) (hf := fun hb => ?_) <;> (try simp at hb) <;> (try (exfalso; omega))))
  · rw [hb, if_pos (h3.1 (by rw [hb]; rfl))]
    exact FinM.ret (ResM.cell rfl rfl rfl rfl zeroSub ResM.nil)
  · rw [if_neg (fun h => hb (List.length_eq_zero_iff.1 (h3.2 h)))]
    exact FinM.ret ResM.auto
/-- what is not too great -/
def fullZ (z : Int) : Int := if mag z < pw 60 then z else 0
def fullE (z : Int) : Int := if mag z < pw 60 then 0 else 6
theorem checked_yes (z : Int) (hl : (digs (mag z)).length ≤ 1000000) : ACalls Try.prog 78 [cB true, zB z] (.tup [zB (fullZ z), cI (fullE z)]) := by
  have h1 : (digs (mag z)).length ≤ 60 ↔ mag z < pw 60 := digs_len (mag_nn z)
  by_cases h : mag z < pw 60
  · rw [fullZ, fullE, if_pos h, if_pos h]
    have h2 := h1.2 h
    refine ACalls.of_M TYok (qs := [zB z, cI 0]) [.cell 4 29, .tmp 5] 17 Try.func78 (by kernel_rfl) rfl rfl rfl fun G => ?_
    refine W.initA (hw := ?_)
    repeat' (first | ((first | apply U_); (first | exact QX.B TYok | exact QX.Len TYok | exact QX.Build TYok); exact rfl) | refine SX.Alloc TYok (h := ?_) | refine SX.Store TYok (h := ?_) | refine SX.Box TYok (h := ?_) | refine SC ?_ | (refine W.condA (ht := fun hb => ?_) (hf := fun hb => ?_) <;> (try simp at hb) <;> (try (exfalso; omega))))
    exact FinM.ret ResM.auto
  · rw [fullZ, fullE, if_neg h, if_neg h]
    have h2 : ¬ (digs (mag z)).length ≤ 60 := fun q => h (h1.1 q)
    refine ACalls.of_M TYok (qs := [zB 0, cI 6]) [.cell 4 29, .tmp 5] 17 Try.func78 (by kernel_rfl) rfl rfl rfl fun G => ?_
    refine W.initA (hw := ?_)
    repeat' (first | ((first | apply U_); (first | exact QX.B TYok | exact QX.Len TYok | exact QX.Build TYok); exact rfl) | refine SX.Alloc TYok (h := ?_) | refine SX.Store TYok (h := ?_) | refine SX.Box TYok (h := ?_) | refine SC ?_ | (refine W.condA (ht := fun hb => ?_) (hf := fun hb => ?_) <;> (try simp at hb) <;> (try (exfalso; omega))))
    exact FinM.ret (ResM.cell rfl rfl rfl rfl zeroSubZ (ResM.tmp rfl rfl PSub.rfl' ResM.nil))
theorem orTwo_ok (x y : Int) : ACalls Try.prog 95 [slI [x, y]] (.pv (cI (if x = 0 then y else x))) := by
  have e0 : nth [x, y] 0 = x := by simp [nth]
  have e1 : nth [x, y] 1 = y := by simp [nth]
  have hl : [x, y].length = 2 := rfl
  generalize [x, y] = l at *
  refine ACalls.of_W (qs := [cI (if x = 0 then y else x)]) [2] 18 Try.func95 (by kernel_rfl) rfl rfl rfl fun G => ?_
  refine W.initA (hw := ?_)
  repeat' (first | ((first | apply U_); (first | exact QX.B TYok | exact QX.Len TYok | exact QX.Idx TYok); exact rfl) | refine SC ?_ | (refine W.condA (ht := fun hb => ?_) (hf := fun hb => ?_) <;> (try simp at hb) <;> (try (exfalso; omega))))
  apply W.loopP (σ := Nat) 18 [3, 6, 7] (fun k => k ≤ 2 ∧ (0 < k → x = 0) ∧ (1 < k → y = 0)) (fun k => [(8, vI k)]) (fun _ => []) (fun k => 2 - k) (0)
  case hp => repeat (first | exact Pick.nil | apply Pick.cons rfl)
  case h0 =>
    refine ⟨by simp, ?_⟩
    exact Le.auto
  case round =>
    rintro k ⟨g1, g2, g3⟩
    have hk : k = 0 ∨ k = 1 ∨ k = 2 := by omega
    have f0 : k = 0 → nth l k = x := by rintro rfl; exact e0
    have f1 : k = 1 → nth l k = y := by rintro rfl; exact e1
    apply W.norm (by repeat (first | exact App.nil | apply App.cons))
    repeat' (first | ((first | apply U_); (first | exact QX.B TYok | exact QX.Len TYok | exact QX.Idx TYok); exact rfl) | refine SC ?_ | (refine W.condA (ht := fun hb => ?_) (hf := fun hb => ?_) <;> (try simp at hb) <;> (try (exfalso; omega))))
    · have : nth l k = if x = 0 then y else x := by
        by_cases h : x = 0
        · rw [if_pos h]; omega
        · rw [if_neg h]; omega
      rw [← this]
      exact Fin.ret ResL.auto
    · refine ⟨k + 1, ⟨by omega, by omega, by omega⟩, ?_, by omega⟩
      exact Le.auto
    · have : (if x = 0 then y else x) = 0 := by rw [if_pos (g2 (by omega)), g3 (by omega)]
      rw [this]
      exact Fin.ret ResL.auto
theorem neg_ok (x : Int) (hx : okZ x) : ACalls Try.prog 93 [zB x] (.pv (zB (-x))) := by
  have h1 := right_yes hx
  have h2 := num_len hx
  have h3 := clone_ok (digs (mag x)) (by omega)
  have h4 := signed_ok (-(sgn x)) (digs (mag x)) (digs_norm _).dig (by omega) (-x) (by have := sgn_cases x; rw [val_mag]; omega) (by rw [val_mag, Int.neg_mul, sgn_mag])
  have hc := sgn_cases x
  refine ACalls.of_M TYok (qs := [zB (-x)]) [.cell 2 29] 14 Try.func93 (by kernel_rfl) rfl rfl rfl fun G => ?_
  refine W.initA (hw := ?_)
  repeat' (first | ((first | apply U_ | apply Lex.u | (apply Lex.g; exact rfl; exact rfl) | (apply Lex.gq; exact rfl; exact rfl)); (first | exact QX.B TYok | exact QX.Build TYok | exact QCl (h1) | exact QCd (h3.data rfl) | exact QCd (h4)); exact rfl) | refine SX.Alloc TYok (h := ?_) | refine SX.Store TYok (h := ?_) | refine SX.Box TYok (h := ?_) | refine SC ?_ | (apply W.draw2 (id := 3) [0, 1, 3, 0, 8, 24, 63, 127] [[1], [7], [8], [1], [10], [11], [9, 12]] 7 [(7, 2), (8, 128), (9, 256), (10, 2), (11, 1024), (12, 2048), (13, 4608)] mixed (by kernel_rfl) rfl rfl) | (refine W.condA (ht := fun hb => ?_) (hf := fun hb => ?_) <;> (try simp at hb) <;> (try (exfalso; omega))))
  exact FinM.ret ResM.auto
theorem mul_sgn (x y : Int) : -1 ≤ sgn x * sgn y ∧ sgn x * sgn y ≤ 1 := by
  have h1 := sgn_cases x
  have h2 := sgn_cases y
  rcases h1 with h | h | h <;> rcases h2 with h' | h' | h' <;> rw [h.1, h'.1] <;> decide
theorem mulZ_ok (x y : Int) (hx : okZ x) (hy : okZ y) : ACalls Try.prog 52 [zB x, zB y] (.tup [zB (fullZ (x * y)), cI (fullE (x * y))]) := by
  have h1 := right_yes hx
  have h2 := right_yes hy
  have l1 := num_len hx
  have l2 := num_len hy
  have h3 := mul_ok (digs (mag x)) (digs (mag y)) (digs_norm _).dig (digs_norm _).dig (by omega) (by omega)
  rw [val_mag, val_mag] at h3
  have hs := mul_sgn x y
  have m0 : 0 ≤ mag x * mag y := Int.mul_nonneg (mag_nn x) (mag_nn y)
  have m1 : mag x * mag y < pw 120 := by
    have a1 : mag x * mag y ≤ mag x * pw 60 := Int.mul_le_mul_of_nonneg_left (by have := hy; unfold okZ at this; omega) (mag_nn x)
    have a2 : mag x * pw 60 < pw 60 * pw 60 := Int.mul_lt_mul_of_pos_right hx (pw_pos 60)
    have a3 : pw 120 = pw 60 * pw 60 := pw_add 60 60
    omega
  have l3 : (digs (mag x * mag y)).length ≤ 120 := (digs_len m0).2 m1
  have hsm : sgn x * sgn y = 1 ∨ sgn x * sgn y = -1 ∨ mag x * mag y = 0 := by
    have c1 := sgn_cases x
    have c2 := sgn_cases y
    rcases c1 with h | h | h <;> rcases c2 with h' | h' | h' <;> rw [h.1, h'.1] <;> simp [h.2.2, h'.2.2]
  have hz : x * y = sgn x * sgn y * (mag x * mag y) := by
    have e1 := sgn_mag x
    have e2 := sgn_mag y
    generalize sgn x = s1 at *
    generalize sgn y = s2 at *
    generalize mag x = p1 at *
    generalize mag y = p2 at *
    subst e1; subst e2; grind
  have h4 := signed_ok (sgn x * sgn y) (digs (mag x * mag y)) (digs_norm _).dig (by omega) (x * y) (by rw [val_digs m0]; exact hsm) (by rw [val_digs m0]; exact hz)
  obtain ⟨e1, e2⟩ := num_of m0 hsm hz
  have h5 := checked_yes (x * y) (by rw [e1]; omega)
  generalize x * y = z at *
  refine ACalls.of_M TYok (qs := [zB (fullZ z), cI (fullE z)]) [.cell 4 29, .tmp 5] 32 Try.func52 (by kernel_rfl) rfl rfl rfl fun G => ?_
  refine W.initA (hw := ?_)
  repeat' (first | ((first | apply U_ | (apply Ug_; exact rfl; exact rfl) | (apply Ugq_; exact rfl; exact rfl) | apply Lex.u | (apply Lex.g; exact rfl; exact rfl) | (apply Lex.gq; exact rfl; exact rfl)); (first | exact QX.B TYok | exact QX.Ext TYok | exact QX.Build TYok | exact QCl (h1) | exact QCl (h2) | exact QCd (h3) | exact QCd (h4) | exact QCd (h5)); exact rfl) | refine SX.Alloc TYok (h := ?_) | refine SX.Store TYok (h := ?_) | refine SX.Box TYok (h := ?_) | refine SC ?_ | refine SG ?_ | (apply W.draw2 (id := 3) [0, 1, 0, 4, 15, 0, 32, 0, 128, 480, 1023, 2047, 4095, 4095, 16383, 32767] [[2], [18], [3], [20], [19, 21], [2], [23], [3], [25], [24, 26], [22, 27], [28], [29], [29]] 14 [(18, 4), (19, 262144), (20, 8), (21, 1048576), (22, 2621440), (23, 4), (24, 8388608), (25, 8), (26, 33554432), (27, 83886080), (28, 138412032), (29, 268435456), (30, 536870912), (31, 536870912)] mixed (by kernel_rfl) rfl rfl) | (refine W.condA (ht := fun hb => ?_) (hf := fun hb => ?_) <;> (try simp at hb) <;> (try (exfalso; omega))))
  exact FinM.ret ResM.auto
end Go.Proofs.Ytgpcmgjdkefdjaa
end
section
set_option linter.unusedVariables false
set_option linter.unusedSimpArgs false
namespace Lf
open Go Go.RowKit
def bitN (m e : Nat) : Bool := Nat.beq (m / 2 ^ e % 2) 1
theorem bitN_eq (m e : Nat) : bitN m e = m.testBit e := by
  rw [Nat.testBit_eq_decide_div_mod_eq, bitN]
  by_cases h : m / 2 ^ e % 2 = 1
  · rw [h]; rfl
  · rw [decide_eq_false h]
    cases hb : Nat.beq (m / 2 ^ e % 2) 1 with
    | false => rfl
    | true => exact absurd (Nat.eq_of_beq_eq_true hb) h
abbrev Effs := List (Nat × (Nat × Blk))
def bL (L : Nat → Bool) : Effs → List (Nat × Blk) → List (Nat × Blk)
  | [], bl => bl
  | (e, x) :: r, bl => bif L e then x :: bL L r bl else bL L r bl
theorem bL_eq (L : Nat → Bool) (bl : List (Nat × Blk)) : ∀ effs : Effs, bL L effs bl = (effs.filter fun x => L x.1).map (·.2) ++ bl
  | [] => rfl
  | (e, x) :: r => by
    rw [bL, bL_eq L bl r, List.filter_cons]
    cases h : L e <;> simp [h]
theorem lk_app {α : Type _} : ∀ (a b : List (Nat × α)) (k : Nat), lk (a ++ b) k = match lk a k with | some x => some x | none => lk b k
  | [], b, k => rfl
  | (t, x) :: r, b, k => by
    rw [List.cons_append, lk_cons, lk_cons]
    split
    · rfl
    · exact lk_app r b k
theorem lk_of_mem {α : Type _} : ∀ {l : List (Nat × α)} {k : Nat} {x : α}, (k, x) ∈ l → (∀ y, (k, y) ∈ l → y = x) → lk l k = some x
  | (t, y) :: r, k, x, h, hf => by
    rw [lk_cons]
    by_cases e : t = k
    · subst e; rw [if_pos rfl, hf y (by simp)]
    · rw [if_neg e]
      rcases List.mem_cons.1 h with h | h
      · injection h with h1 h2; exact absurd h1.symm e
      · exact lk_of_mem h fun z hz => hf z (List.mem_cons_of_mem _ hz)
def ndB : List Nat → Bool
  | [] => true
  | x :: r => r.all (fun y => !Nat.beq x y) && ndB r
theorem ndB_inj {α : Type _} {f : α → Nat} : ∀ {l : List α}, ndB (l.map f) = true → ∀ a ∈ l, ∀ b ∈ l, f a = f b → a = b
  | x :: r, h, a, ha, b, hb, e => by
    rw [List.map_cons, ndB, Bool.and_eq_true] at h
    have h1 : ∀ y ∈ r, f x ≠ f y := fun y hy q => by
      have := List.all_eq_true.1 h.1 (f y) (List.mem_map_of_mem hy)
      rw [q] at this; simp at this
    rcases List.mem_cons.1 ha with ha' | ha' <;> rcases List.mem_cons.1 hb with hb' | hb'
    · rw [ha', hb']
    · subst ha'; exact absurd e (h1 b hb')
    · subst hb'; exact absurd e.symm (h1 a ha')
    · exact ndB_inj h.2 a ha' b hb' e
structure EffsOk (effs : Effs) (bl : List (Nat × Blk)) : Prop where
  fn : ∀ e d B e' B', (e, (d, B)) ∈ effs → (e', (d, B')) ∈ effs → e = e' ∧ B = B'
  ix : ∀ e d B d' B', (e, (d, B)) ∈ effs → (e, (d', B')) ∈ effs → d = d' ∧ B = B'
  fr : ∀ e d B, (e, (d, B)) ∈ effs → lk bl d = none
theorem EffsOk.of {effs : Effs} {bl : List (Nat × Blk)} (h1 : ndB (effs.map (·.1)) = true) (h2 : ndB (effs.map (·.2.1)) = true) (h3 : effs.all (fun x => (lk bl x.2.1).isNone) = true) : EffsOk effs bl where
  fn e d B e' B' a b := by have := ndB_inj h2 _ a _ b rfl; cases this; exact ⟨rfl, rfl⟩
  ix e d B d' B' a b := by have := ndB_inj h1 _ a _ b rfl; cases this; exact ⟨rfl, rfl⟩
  fr e d B a := by have := List.all_eq_true.1 h3 _ a; simpa using this
theorem mem_F {L : Nat → Bool} {effs : Effs} {k : Nat} {C : Blk} : (k, C) ∈ (effs.filter fun x => L x.1).map (·.2) ↔ ∃ e, (e, (k, C)) ∈ effs ∧ L e = true := by
  rw [List.mem_map]
  constructor
  · rintro ⟨⟨e, d, B⟩, h, h2⟩
    cases h2
    rw [List.mem_filter] at h
    exact ⟨e, h.1, h.2⟩
  · rintro ⟨e, h1, h2⟩
    exact ⟨(e, (k, C)), List.mem_filter.2 ⟨h1, h2⟩, rfl⟩
theorem lk_bL {L : Nat → Bool} {effs : Effs} {bl : List (Nat × Blk)} (ho : EffsOk effs bl) {k : Nat} {C : Blk} : lk (bL L effs bl) k = some C ↔ (∃ e, (e, (k, C)) ∈ effs ∧ L e = true) ∨ lk bl k = some C := by
  rw [bL_eq, lk_app]
  constructor
  · intro h
    cases hF : lk ((effs.filter fun x => L x.1).map (·.2)) k with
    | some B =>
      rw [hF] at h
      obtain rfl := Option.some.inj h
      exact .inl (mem_F.1 (lk_mem hF))
    | none => rw [hF] at h; exact .inr h
  · rintro (⟨e, h1, h2⟩ | h)
    · have hm : (k, C) ∈ (effs.filter fun x => L x.1).map (·.2) := mem_F.2 ⟨e, h1, h2⟩
      rw [lk_of_mem hm fun B hB => by
        obtain ⟨e', h3, _⟩ := mem_F.1 hB
        exact (ho.fn _ _ _ _ _ h3 h1).2]
    · cases hF : lk ((effs.filter fun x => L x.1).map (·.2)) k with
      | none => exact h
      | some B =>
        obtain ⟨e, h1, _⟩ := mem_F.1 (lk_mem hF)
        rw [ho.fr _ _ _ h1] at h; cases h
theorem AVRel.sub {Φ : Frz} {β : Own} {bl bl' : List (Nat × Blk)} {v : Value} {x : AV} (h : AVRel Φ β bl' v x) (hs : ∀ k, x.ment k = true → lk bl k = lk bl' k) : AVRel Φ β bl v x := by
  cases x with
  | pv p => exact h
  | tup l => exact h
  | top => trivial
  | addr n i off =>
    obtain ⟨b, cap, B, h1, h2, h3, h4⟩ := h
    exact ⟨b, cap, B, h1, by rw [hs n (Nat.beq_refl n)]; exact h2, h3, h4⟩
  | slc n =>
    obtain ⟨B, h1, h2, h3⟩ := h
    exact ⟨B, by rw [hs n (Nat.beq_refl n)]; exact h1, h2, h3⟩
  | mp n =>
    obtain ⟨b, cap, B, h1, h2, h3, h4⟩ := h
    exact ⟨b, cap, B, h1, by rw [hs n (Nat.beq_refl n)]; exact h2, h3, h4⟩
  | itr d n =>
    obtain ⟨b, cap, B, M, c, h1, h2, h3, h4, h5, h6, h7, h8⟩ := h
    exact ⟨b, cap, B, M, c, h1, by rw [hs d (by simp [AV.ment])]; exact h2, h3, h4, by rw [hs n (by simp [AV.ment])]; exact h5, h6, h7, h8⟩
  | pin n b c f =>
    obtain ⟨B, h1, h2, h3, h4⟩ := h
    exact ⟨B, h1, by rw [hs n (Nat.beq_refl n)]; exact h2, h3, h4⟩
theorem AVRel.sup {Φ : Frz} {β : Own} {bl bl' : List (Nat × Blk)} {v : Value} {x : AV} (h : AVRel Φ β bl v x) (hs : ∀ k C, lk bl k = some C → lk bl' k = some C) : AVRel Φ β bl' v x := by
  cases x with
  | pv p => exact h
  | tup l => exact h
  | top => trivial
  | addr n i off =>
    obtain ⟨b, cap, B, h1, h2, h3, h4⟩ := h
    exact ⟨b, cap, B, h1, hs _ _ h2, h3, h4⟩
  | slc n =>
    obtain ⟨B, h1, h2, h3⟩ := h
    exact ⟨B, hs _ _ h1, h2, h3⟩
  | mp n =>
    obtain ⟨b, cap, B, h1, h2, h3, h4⟩ := h
    exact ⟨b, cap, B, h1, hs _ _ h2, h3, h4⟩
  | itr d n =>
    obtain ⟨b, cap, B, M, c, h1, h2, h3, h4, h5, h6, h7, h8⟩ := h
    exact ⟨b, cap, B, M, c, h1, hs _ _ h2, h3, h4, hs _ _ h5, h6, h7, h8⟩
  | pin n b c f =>
    obtain ⟨B, h1, h2, h3, h4⟩ := h
    exact ⟨B, h1, hs _ _ h2, h3, h4⟩
theorem Sat.subB {G : Ghost} {Φ : Frz} {β : Own} {n : Nat} {env env' : Env} {bl bl' : List (Nat × Blk)} {a : Act} {w : World} (h : Sat G Φ β (St.mk n env' bl') a w) (hb : ∀ k C, lk bl k = some C → lk bl' k = some C)
    (he : ∀ t q v, lk env t = some (q, v) → lk env' t = some (q, v) ∧ ∀ k, v.ment k = true → lk bl k = lk bl' k) : Sat G Φ β (St.mk n env bl) a w :=
  ⟨h.kept, h.fits, h.old, h.siz, h.dfr, fun t q v hl => by
    obtain ⟨h1, h2⟩ := he t q v hl
    exact ⟨fun hq => ((h.env t q v h1).1 hq).sub h2, (h.env t q v h1).2⟩,
   fun k B b cap hl => h.blk k B b cap (hb _ _ hl), fun k B hl => h.vir k B (hb _ _ hl), fun k k' B B' b c c' h1 h2 => h.inj k k' B B' b c c' (hb _ _ h1) (hb _ _ h2)⟩
/-- A literal that can be made in every state that knows as1 much. -/
def FreshAt (P : Program) (G : Ghost) (n : Nat) (E : Env) (o : Oper) (d : Nat) (B : Blk) : Prop :=
  ∀ E' bl', (∀ t e, lk E t = some e → lk E' t = some e) → lk bl' d = none → EffOp P G (St.mk n E' bl') o (St.mk n ((d, (True, .slc d)) :: E') ((d, B) :: bl'))
theorem EvR.more {n : Nat} {E E' : Env} {b b' : List (Nat × Blk)} (h : ∀ t e, lk E t = some e → lk E' t = some e) : ∀ {ps : List (Nat × Operand)} {k : Nat} {rs : List (List Cell)}, EvR (St.mk n E b) ps k rs → EvR (St.mk n E' b') ps k rs
  | [], _, [], _ => trivial
  | (i, x) :: xs, k, r :: rs, ⟨⟨h1, q, ⟨p, h2, h3⟩, h4⟩, h5⟩ => ⟨⟨h1, q, ⟨p, by
      cases x with
      | tmp t => exact h t _ h2
      | const v => exact h2
      | func f => exact h2
      | global g => exact h2, h3⟩, h4⟩, EvR.more h h5⟩
def StepE (P : Program) (G : Ghost) (ops : Array Oper) (n : Nat) (bl : List (Nat × Blk)) (effs : Effs) (i my : Nat) (E : Env) (o : Oper) (d : Nat) (p : Prop) (v : AV) : Prop :=
  GOk (St.mk n E (bL (bitN my) effs bl)) ops o p ∧ ((PureOp P G (St.mk n E (bL (bitN my) effs bl)) o p v ∧ ∀ x ∈ effs, x.1 ≠ i) ∨ ∃ B, (i, (d, B)) ∈ effs ∧ v = .slc d ∧ p ∧ FreshAt P G n E o d B) ∧
    ∀ x ∈ effs, bitN my x.1 = false → ∀ t e, lk E t = some e → e.2.ment x.2.1 = false
def LexE (P : Program) (G : Ghost) (ops : Array Oper) (n : Nat) (bl : List (Nat × Blk)) (effs : Effs) : List Oper → Nat → List (List Nat) → List Nat → Env → (Env → Prop) → Prop
  | [], _, _, _, env, K => K env
  | o :: rest, i, tss, ms, env, K => ∃ d p v, o.dst = some d ∧ d < n ∧ StepE P G ops n bl effs i (ms.headD 0) (only (tss.headD []) env) o d p v ∧ LexE P G ops n bl effs rest (i + 1) tss.tail ms.tail ((d, (p, v)) :: env) K
section
variable {P : Program} {G : Ghost} {ops : Array Oper} {n : Nat} {bl : List (Nat × Blk)} {effs : Effs}
theorem LexE.vals : ∀ {l : List Oper} {i0 : Nat} {tss : List (List Nat)} {ms : List Nat} {env : Env} {K : Env → Prop}, LexE P G ops n bl effs l i0 tss ms env K →
    ∃ vals : Env, vals.length = l.length ∧ K (eL (fun _ => true) 0 vals env) ∧ ∀ i o, l[i]? = some o → ∃ d p v, vals[i]? = some (d, (p, v)) ∧ o.dst = some d ∧ d < n ∧
      StepE P G ops n bl effs (i0 + i) (ms.getD i 0) (only (tss.getD i []) (eL (fun j => decide (j < i)) 0 vals env)) o d p v
  | [], i0, tss, ms, env, K, h => ⟨[], rfl, h, fun i o hi => by simp at hi⟩
  | o :: rest, i0, tss, ms, env, K, ⟨d, p, v, h1, h2, h3, h5⟩ => by
    obtain ⟨vals, g1, g2, g3⟩ := LexE.vals h5
    have shift : ∀ (L : Nat → Bool) (vals : Env) (k : Nat) (env : Env), eL L (k + 1) vals env = eL (fun j => L (j + 1)) k vals env := by
      intro L vals
      induction vals with
      | nil => intro k env; rfl
      | cons x r ih => intro k env; rw [eL, eL, ih]
    refine ⟨(d, (p, v)) :: vals, by simp [g1], ?_, fun i o' hi => ?_⟩
    · rw [eL, if_pos rfl, shift]; exact g2
    · cases i with
      | zero =>
        simp at hi; subst hi
        have hz : eL (fun j => decide (j < 0)) 0 ((d, (p, v)) :: vals) env = env := by
          have : (fun j => decide (j < 0)) = fun _ : Nat => false := by funext j; simp
          rw [this, eL_none]
        have ht : tss.getD 0 [] = tss.headD [] := by cases tss <;> rfl
        have hm : ms.getD 0 0 = ms.headD 0 := by cases ms <;> rfl
        rw [hz, ht, hm]
        exact ⟨d, p, v, rfl, h1, h2, h3⟩
      | succ i =>
        obtain ⟨d', p', v', k1, k2, k3, k4⟩ := g3 i o' (by simpa using hi)
        have hz : eL (fun j => decide (j < i + 1)) 0 ((d, (p, v)) :: vals) env = eL (fun j => decide (j < i)) 0 vals ((d, (p, v)) :: env) := by
          rw [eL, if_pos (by simp), shift]
          congr 1
          funext j; simp
        have ht : tss.getD (i + 1) [] = tss.tail.getD i [] := by cases tss <;> simp
        have hm : ms.getD (i + 1) 0 = ms.tail.getD i 0 := by cases ms <;> simp
        rw [hz, ht, hm, show i0 + (i + 1) = i0 + 1 + i by omega]
        exact ⟨d', p', v', by simpa using k1, k2, k3, k4⟩
def noMent (d : Nat) : Env → Bool
  | [] => true
  | (_, (_, v)) :: r => !v.ment d && noMent d r
theorem noMent_eq (d : Nat) : ∀ E : Env, noMent d E = E.all fun y => !y.2.2.ment d
  | [] => rfl
  | (_, (_, v)) :: r => by rw [noMent, noMent_eq d r]; rfl
def cleanB : Effs → Nat → Env → Bool
  | [], _, _ => true
  | (e, (d, _)) :: r, my, E => (bitN my e || noMent d E) && cleanB r my E
theorem cleanB_eq (my : Nat) (E : Env) : ∀ effs : Effs, cleanB effs my E = effs.all fun x => bitN my x.1 || E.all fun y => !y.2.2.ment x.2.1
  | [] => rfl
  | (e, (d, B)) :: r => by rw [cleanB, cleanB_eq my E r, noMent_eq]; rfl
theorem clean_of {my : Nat} {E : Env} (h : cleanB effs my E = true) : ∀ x ∈ effs, bitN my x.1 = false → ∀ t e, lk E t = some e → e.2.ment x.2.1 = false := fun x hx hb t e hl => by
  rw [cleanB_eq] at h
  have := List.all_eq_true.1 h x hx
  rw [hb, Bool.false_or] at this
  have := List.all_eq_true.1 this _ (lk_mem hl)
  simpa using this
def offB (effs : Effs) (i : Nat) : Bool := effs.all fun x => !Nat.beq x.1 i
theorem off_of {i : Nat} (h : offB effs i = true) : ∀ x ∈ effs, x.1 ≠ i := fun x hx e => by
  have := List.all_eq_true.1 h x hx
  rw [e] at this; simp at this
theorem LexE.u {i my d : Nat} {op : Op} {ty : TypeId} {pos : String} {after : Array Edge} {ts : List Nat} {tss : List (List Nat)} {ms : List Nat} {rest : List Oper} {env : Env} {K : Env → Prop} {v : AV}
    (hp : PureOp P G (St.mk n (only ts env) (bL (bitN my) effs bl)) ⟨some d, op, ty, pos, after, none⟩ True v) (hn : Nat.blt d n = true) (ho : offB effs i = true) (hc : cleanB effs my (only ts env) = true) (h : LexE P G ops n bl effs rest (i + 1) tss ms ((d, (True, v)) :: env) K) : LexE P G ops n bl effs (⟨some d, op, ty, pos, after, none⟩ :: rest) i (ts :: tss) (my :: ms) env K :=
  ⟨d, True, v, rfl, blt_lt hn, ⟨GOk.none rfl, .inl ⟨hp, off_of ho⟩, clean_of hc⟩, h⟩
theorem mem_get {x : Nat × (Nat × Blk)} {k : Nat} (h : effs[k]? = some x) : x ∈ effs := List.mem_of_getElem? h
/-- a literal -/
theorem FreshAt.lit {T : Nat → Option TI} (hT : TOK P T) {E : Env} {B : Blk} {t e nn d : Nat} {ps : List (Nat × Operand)} {rs : List (List Cell)} {ti te : TI} {ty : TypeId} {pos : String} {after : Array Edge} {gd : Option (Nat × Bool)} (hx : EvR (St.mk n E []) ps 0 rs) (ht : T t = some ti) (hk : ti.kind = .slice e) (he : T e = some te) (hlen : rs.length = nn) (hrs : rs.all (fun r => Nat.beq r.length te.sz) = true)
    (hb : Nat.ble (nn * te.sz) 16777216 = true) (hn' : Nat.ble nn 16777216 = true) (hn : Nat.blt d n = true) (hB : (⟨e, te.sz, rs⟩ : Blk) = B) : FreshAt P G n E ⟨some d, .buildSlice t nn ps.toArray, ty, pos, after, gd⟩ d B := fun E' bl' hs hfr => by
  subst hB
  exact EffOp.fresh hfr (E_lit hT rfl rfl (blt_lt hn) ht hk he (EvR.more hs hx) hlen (fun r hr => Nat.eq_of_beq_eq_true (List.all_eq_true.1 hrs r hr)) (Nat.le_of_ble_eq_true hb) (Nat.le_of_ble_eq_true hn'))
theorem LexE.e {i my d k : Nat} {B : Blk} {op : Op} {ty : TypeId} {pos : String} {after : Array Edge} {ts : List Nat} {tss : List (List Nat)} {ms : List Nat} {rest : List Oper} {env : Env} {K : Env → Prop}
    (hk : effs[k]? = some (i, (d, B))) (hp : FreshAt P G n (only ts env) ⟨some d, op, ty, pos, after, none⟩ d B) (hn : Nat.blt d n = true) (hc : cleanB effs my (only ts env) = true) (h : LexE P G ops n bl effs rest (i + 1) tss ms ((d, (True, .slc d)) :: env) K) : LexE P G ops n bl effs (⟨some d, op, ty, pos, after, none⟩ :: rest) i (ts :: tss) (my :: ms) env K :=
  ⟨d, True, .slc d, rfl, blt_lt hn, ⟨GOk.none rfl, .inr ⟨B, mem_get hk, rfl, trivial, hp⟩, clean_of hc⟩, h⟩
end
end Lf
end
