/-
  Fractions: their texts; fractions of two ints; the examples of the documentation.
-/
import Derived.Test.YtipghibmgfhmpaaGreatDoorWalk15
set_option linter.unusedVariables false
set_option linter.unusedSimpArgs false
set_option maxHeartbeats 8000000
namespace Go.Proofs.YtipghibmgfhmpaaGreatDoor
open Lf Go
attribute [local irreducible] PureOp EffOp Ev RG W Then InBlock Lf.Fin nth App InitE Pick SubE SubF SubG EvL EvD EvP EvR ResL Lf.Lex SubR SubBR RA RAll EvC FinO FinM ResM FinB ResD FinS val pw digs trimL

section
open Go.Lib in
theorem index_cases (c : UInt8) : ∀ s : Str, (indexByte s c = -1 ∧ c ∉ s) ∨ ∃ a b, s = a ++ c :: b ∧ c ∉ a ∧ indexByte s c = (a.length : Int)
  | [] => .inl ⟨rfl, by simp⟩
  | b :: l => by
    rw [indexByte]
    by_cases h : b = c
    · subst h
      exact .inr ⟨[], l, rfl, by simp, by simp⟩
    · have hb : (b == c) = false := by simpa using h
      rw [hb]
      rcases index_cases c l with ⟨h1, h2⟩ | ⟨x, y, h1, h2, h3⟩
      · refine .inl ⟨by simp [h1], ?_⟩
        intro hm
        rcases List.mem_cons.1 hm with e | e
        · exact h e.symm
        · exact h2 e
      · refine .inr ⟨b :: x, y, by rw [h1]; rfl, ?_, ?_⟩
        · intro hm
          rcases List.mem_cons.1 hm with e | e
          · exact h e.symm
          · exact h2 e
        · have hn : ¬ (x.length : Int) = -1 := by omega
          rw [h3]
          simp [hn]
theorem index_ok (s : Str) (c : UInt8) : ACalls Tryz.prog 94 [cS s, cS [c]] (.pv (cI (Lib.indexByte s c))) where
  fn := ⟨_, Tryz.func94, by kernel_rfl, rfl⟩
  calls := fun Φ w vs hfit harg => by
    obtain ⟨v, u, rfl, r0, r1⟩ := args2 harg
    obtain rfl := str_of r0
    obtain rfl := str_of r1
    refine (Tryz.stringslite_Index_one ⟨s.toArray⟩ c w).mono fun e w' ⟨he, hb⟩ => ?_
    subst hb
    exact fin_flat hfit (v0 := .int .i64 (Lib.indexByte s c)) (by show Rel Φ _ _; exact Rel.int _ _) (by simpa using he) (Go.RowKit.Below.refl _ _)
theorem app_uniq {c : UInt8} : ∀ {a x b y : Str}, a ++ c :: b = x ++ c :: y → c ∉ a → c ∉ x → a = x ∧ b = y
  | [], [], b, y, h, _, _ => by simpa using h
  | [], d :: x, b, y, h, _, h2 => by
    simp only [List.nil_append, List.cons_append, List.cons.injEq] at h
    exact absurd (by rw [h.1]; simp) h2
  | d :: a, [], b, y, h, h1, _ => by
    simp only [List.nil_append, List.cons_append, List.cons.injEq] at h
    exact absurd (by rw [h.1]; simp) h1
  | d :: a, d' :: x, b, y, h, h1, h2 => by
    simp only [List.cons_append, List.cons.injEq] at h
    obtain ⟨e1, e2⟩ := app_uniq h.2 (fun q => h1 (List.mem_cons_of_mem _ q)) (fun q => h2 (List.mem_cons_of_mem _ q))
    exact ⟨by rw [h.1, e1], e2⟩
theorem cut77_ok (s : Str) (c : UInt8) (hs : s.length ≤ 9223372036854775806) : (c ∉ s → ACalls Tryz.prog 77 [cS s, cS [c]] (.tup [cS s, cS [], cB false])) ∧ ∀ a b, s = a ++ c :: b → c ∉ a → ACalls Tryz.prog 77 [cS s, cS [c]] (.tup [cS a, cS b, cB true]) := by
  have i1 := index_ok s c
  refine ⟨fun h => ?_, fun a b hab hca => ?_⟩
  · rcases index_cases c s with ⟨h1, _⟩ | ⟨x, y, h1, _⟩
    · rw [h1] at i1
      refine ACalls.of_W (qs := [cS s, cS [], cB false]) [4, 5, 6] 23 Tryz.func77 (by kernel_rfl) rfl rfl rfl fun G => ?_
      refine W.initA (hw := ?_)
      repeat' (first
        | ((first | apply U_ | apply Lex.u | (apply Lex.g; exact rfl; exact rfl) | (apply Lex.gq; exact rfl; exact rfl)); (first
    | exact QX.Move TYok
    | exact QX.Asg TYok
    | exact QX.Bin TYok
    | exact QX.Len TYok
    | exact QX.Cut TYok
    | (apply Q_calld (i1); exact EvD.auto)); exact rfl)
        | apply RG.nil
        | apply Lex.nil
        | apply Then.n
        | apply Then.r
        | apply Then.x
        | apply InBlock.n
        | apply InBlock.r
        | apply InBlock.hit
        | (apply InBlock.miss; exact rfl)
        | apply W.seq
        | apply W.region
        | apply W.block
        | apply W.skip
        | apply W.ret
        | apply W.exit
        | (apply W.draw2 (id := 3) [0, 0, 3, 0, 0, 0, 32, 112, 248, 7, 1023, 2047] [[0], [7], [13, 14], [0], [7], [1], [18], [17, 19], [16, 20], [15], [21], []] 12 [(13, 1), (14, 128), (15, 24576), (16, 1), (17, 128), (18, 2), (19, 262144), (20, 655360), (21, 1114112), (4, 32768), (5, 2097152), (6, 0)] mixed (by kernel_rfl) rfl rfl)
        | (refine W.condA (ht := fun hb => ?_) (hf := fun hb => ?_) <;> (try simp at hb) <;> (try (exfalso; omega))))
      all_goals exact Fin.ret ResL.auto
    · exact absurd (by rw [h1]; simp) h
  · rcases index_cases c s with ⟨_, h2⟩ | ⟨x, y, h1, h2, h3⟩
    · exact absurd (by rw [hab]; simp) h2
    · have hxa : x = a ∧ y = b := app_uniq (by rw [← h1, hab]) h2 hca
      obtain ⟨rfl, rfl⟩ := hxa
      rw [h3] at i1
      have hlen : s.length = x.length + y.length + 1 := by rw [hab]; simp; omega
      have hc1 : ([c] : Str).length = 1 := rfl
      have e1 : s.take ((x.length : Int)).toNat = x := by rw [hab]; simp
      have e2 : s.drop ((x.length : Int) + (([c] : Str).length : Int)).toNat = y := by
        rw [show ((x.length : Int) + (([c] : Str).length : Int)).toNat = x.length + 1 by rw [hc1]; omega, hab]; simp
      refine ACalls.of_W (qs := [cS x, cS y, cB true]) [4, 5, 6] 23 Tryz.func77 (by kernel_rfl) rfl rfl rfl fun G => ?_
      refine W.initA (hw := ?_)
      repeat' (first
        | ((first | apply U_ | apply Lex.u | (apply Lex.g; exact rfl; exact rfl) | (apply Lex.gq; exact rfl; exact rfl)); (first
    | exact QX.Move TYok
    | exact QX.Asg TYok
    | exact QX.Bin TYok
    | exact QX.Len TYok
    | exact QX.Cut TYok
    | (apply Q_calld (i1); exact EvD.auto)); exact rfl)
        | apply RG.nil
        | apply Lex.nil
        | apply Then.n
        | apply Then.r
        | apply Then.x
        | apply InBlock.n
        | apply InBlock.r
        | apply InBlock.hit
        | (apply InBlock.miss; exact rfl)
        | apply W.seq
        | apply W.region
        | apply W.block
        | apply W.skip
        | apply W.ret
        | apply W.exit
        | (apply W.draw2 (id := 3) [0, 0, 3, 0, 0, 0, 32, 112, 248, 7, 1023, 2047] [[0], [7], [13, 14], [0], [7], [1], [18], [17, 19], [16, 20], [15], [21], []] 12 [(13, 1), (14, 128), (15, 24576), (16, 1), (17, 128), (18, 2), (19, 262144), (20, 655360), (21, 1114112), (4, 32768), (5, 2097152), (6, 0)] mixed (by kernel_rfl) rfl rfl)
        | (refine W.condA (ht := fun hb => ?_) (hf := fun hb => ?_) <;> (try simp at hb) <;> (try (exfalso; omega))))
      all_goals (rw [e1, e2]; exact Fin.ret ResL.auto)
theorem cut_no (s : Str) (c : UInt8) (hs : s.length ≤ 9223372036854775806) (h : c ∉ s) : ACalls Tryz.prog 47 [cS s, cS [c]] (.tup [cS s, cS [], cB false]) := by
  have i1 := (cut77_ok s c hs).1 h
  refine ACalls.of_W (qs := [cS s, cS [], cB false]) [4, 5, 6] 13 Tryz.func47 (by kernel_rfl) rfl rfl rfl fun G => ?_
  refine W.initA (hw := ?_)
  repeat' (first
    | ((first | apply U_); (first
    | exact QX.Move TYok
    | exact QX.Asg TYok
    | exact QX.Ext TYok
    | (apply Q_calld (i1); exact EvD.auto)); exact rfl)
    | apply RG.nil
    | apply Lex.nil
    | apply Then.n
    | apply Then.r
    | apply Then.x
    | apply InBlock.n
    | apply InBlock.r
    | apply InBlock.hit
    | (apply InBlock.miss; exact rfl)
    | apply W.seq
    | apply W.region
    | apply W.block
    | apply W.skip
    | apply W.ret
    | apply W.exit
    | (refine W.condA (ht := fun hb => ?_) (hf := fun hb => ?_) <;> (try simp at hb) <;> (try (exfalso; omega))))
  all_goals exact Fin.ret ResL.auto
theorem cut_yes (s a b : Str) (c : UInt8) (hs : s.length ≤ 9223372036854775806) (h : s = a ++ c :: b) (h2 : c ∉ a) : ACalls Tryz.prog 47 [cS s, cS [c]] (.tup [cS a, cS b, cB true]) := by
  have i1 := (cut77_ok s c hs).2 a b h h2
  refine ACalls.of_W (qs := [cS a, cS b, cB true]) [4, 5, 6] 13 Tryz.func47 (by kernel_rfl) rfl rfl rfl fun G => ?_
  refine W.initA (hw := ?_)
  repeat' (first
    | ((first | apply U_); (first
    | exact QX.Move TYok
    | exact QX.Asg TYok
    | exact QX.Ext TYok
    | (apply Q_calld (i1); exact EvD.auto)); exact rfl)
    | apply RG.nil
    | apply Lex.nil
    | apply Then.n
    | apply Then.r
    | apply Then.x
    | apply InBlock.n
    | apply InBlock.r
    | apply InBlock.hit
    | (apply InBlock.miss; exact rfl)
    | apply W.seq
    | apply W.region
    | apply W.block
    | apply W.skip
    | apply W.ret
    | apply W.exit
    | (refine W.condA (ht := fun hb => ?_) (hf := fun hb => ?_) <;> (try simp at hb) <;> (try (exfalso; omega))))
  all_goals exact Fin.ret ResL.auto
/-! ### texts -/
def txtF (r : Rat) : Str := txtZ r.num ++ [47] ++ txtZ r.den
theorem dec_len : ∀ (k : Nat) (u : Int), 0 ≤ u ∧ u < pk (k + 1) → (decZ u).length ≤ 5 * (k + 1)
  | 0, u, h => dec_short ⟨h.1, by have := h.2; simp only [pk] at this; omega⟩
  | k + 1, u, h => by
    by_cases h5 : u < 100000
    · have := dec_short ⟨h.1, h5⟩; omega
    · have e : pk (k + 1 + 1) = 65536 * pk (k + 1) := rfl
      have := dec_len k (u / 100000) (by omega)
      have e2 : (padZ (u % 100000)).length = 5 := by
        unfold padZ decZ
        rw [(dec_small (u % 100000).toNat (by omega)).2]; rfl
      rw [dec_div (by omega), List.length_append]
      omega
theorem txt_len {x : Int} (h : okZ x) : (txtZ x).length ≤ 376 := by
  have c := sgn_cases x
  unfold okZ at h
  rw [← pk75, show pk 75 = pk (74 + 1) from rfl] at h
  unfold txtZ
  split
  · have := dec_len 74 (-x) (by omega)
    simp only [List.length_cons]; omega
  · have := dec_len 74 x (by omega)
    omega
attribute [local irreducible] sgn mag gcdZ quoZ remZ txtZ readF fullZ fullE
theorem ftext_ok (r : Rat) (h : okF r) : GCalls Tryz.prog 3 powC 29 [zF r] (.pv (cS (txtF r))) := by
  have r1 := fright_yes r h
  have t1 := text_ok r.num h.1
  have t2 := text_ok r.den h.2
  have l1 := txt_len h.1
  have l2 := txt_len h.2
  unfold txtF
  generalize txtZ r.num = a at *
  generalize txtZ r.den = b at *
  refine GCalls.of_M TYok (qs := [cS (a ++ [47] ++ b)]) [.tmp 2] 14 Tryz.func29 (by kernel_rfl) rfl rfl rfl fun G hG => ?_
  refine W.initA (hw := ?_)
  repeat' (first
    | ((first | apply U_ | apply Lex.u | (apply Lex.g; exact rfl; exact rfl) | (apply Lex.gq; exact rfl; exact rfl)); (first
    | exact QX.Asg TYok
    | exact QX.Fld TYok
    | exact QX.Ld TYok
    | exact QX.Bin TYok
    | exact QX.Un TYok
    | (apply Q_calld (r1); exact EvD.auto)
    | (apply Q_callG hG (t1); exact EvL.auto; exact rfl)
    | (apply Q_callGd hG (t1); exact EvD.auto)
    | (apply Q_callG hG (t2); exact EvL.auto; exact rfl)
    | (apply Q_callGd hG (t2); exact EvD.auto)); exact rfl)
    | refine SX.Box TYok (h := ?_)
    | apply RG.nil
    | apply Lex.nil
    | apply Then.n
    | apply Then.r
    | apply Then.x
    | apply InBlock.n
    | apply InBlock.r
    | apply InBlock.hit
    | (apply InBlock.miss; exact rfl)
    | apply W.seq
    | apply W.region
    | apply W.block
    | apply W.skip
    | apply W.ret
    | apply W.exit
    | (apply W.draw2 (id := 3) [0, 1, 3, 7, 0, 16, 55, 127, 255] [[1], [6], [7], [8], [1], [10], [11], [9, 12], [13]] 9 [(6, 2), (7, 64), (8, 128), (9, 256), (10, 2), (11, 1024), (12, 2048), (13, 4608), (2, 8192)] mixed (by kernel_rfl) rfl rfl)
    | (refine W.condA (ht := fun hb => ?_) (hf := fun hb => ?_) <;> (try simp at hb) <;> (try (exfalso; omega))))
  all_goals exact FinM.ret ResM.auto
theorem ftext_no (s : Int) (l : List Int) (s' : Int) (l' : List Int) (hl : l.length ≤ 9223372036854775807) (hl' : l'.length ≤ 9223372036854775807) (h : rightFB s l s' l' = false) : ACalls Tryz.prog 29 [fB s l s' l'] (.pv (cS [])) := by
  have r1 := fright_ok s l s' l' hl hl'
  rw [h] at r1
  refine ACalls.of_W (qs := [cS []]) [2] 14 Tryz.func29 (by kernel_rfl) rfl rfl rfl fun G => ?_
  refine W.initA (hw := ?_)
  repeat' (first
    | ((first | apply U_ | apply Lex.u | (apply Lex.g; exact rfl; exact rfl) | (apply Lex.gq; exact rfl; exact rfl)); (first
    | exact QX.Asg TYok
    | exact QX.Fld TYok
    | exact QX.Ld TYok
    | exact QX.Bin TYok
    | exact QX.Un TYok
    | (apply Q_calld (r1); exact EvD.auto)); exact rfl)
    | refine SX.Box TYok (h := ?_)
    | apply RG.nil
    | apply Lex.nil
    | apply Then.n
    | apply Then.r
    | apply Then.x
    | apply InBlock.n
    | apply InBlock.r
    | apply InBlock.hit
    | (apply InBlock.miss; exact rfl)
    | apply W.seq
    | apply W.region
    | apply W.block
    | apply W.skip
    | apply W.ret
    | apply W.exit
    | (apply W.draw2 (id := 3) [0, 1, 3, 7, 0, 16, 55, 127, 255] [[1], [6], [7], [8], [1], [10], [11], [9, 12], [13]] 9 [(6, 2), (7, 64), (8, 128), (9, 256), (10, 2), (11, 1024), (12, 2048), (13, 4608), (2, 8192)] mixed (by kernel_rfl) rfl rfl)
    | (refine W.condA (ht := fun hb => ?_) (hf := fun hb => ?_) <;> (try simp at hb) <;> (try (exfalso; omega))))
  all_goals exact Fin.ret ResL.auto
end
section
theorem no47 {x : Int} : (47 : UInt8) ∉ txtZ x := fun h => by
  have key : ∀ n, (47 : UInt8) ∉ Go.Lib.decDigits n := fun n hm => by
    have := dec_digs n 47 hm
    revert this; decide
  unfold txtZ decZ at h
  split at h
  · rcases List.mem_cons.1 h with e | e
    · revert e; decide
    · exact key _ e
  · exact key _ h
def cutA (s : Str) : Str × Str := if Lib.indexByte s 47 = -1 then (s, []) else (s.take (Lib.indexByte s 47).toNat, s.drop ((Lib.indexByte s 47).toNat + 1))
theorem cutA_ok (s : Str) (hs : s.length ≤ 9223372036854775806) : ∃ b, ACalls Tryz.prog 47 [cS s, cS [47]] (.tup [cS (cutA s).1, cS (cutA s).2, cB b]) := by
  rcases index_cases 47 s with ⟨h1, h2⟩ | ⟨x, y, h1, h2, h3⟩
  · refine ⟨false, ?_⟩
    unfold cutA
    rw [if_pos h1]
    exact cut_no s 47 hs h2
  · refine ⟨true, ?_⟩
    unfold cutA
    rw [if_neg (by omega), h3]
    have e1 : s.take ((x.length : Int)).toNat = x := by rw [h1]; simp
    have e2 : s.drop (((x.length : Int)).toNat + 1) = y := by rw [h1]; simp
    rw [e1, e2]
    exact cut_yes s x y 47 hs h1 h2
theorem cutA_txt (r : Rat) : cutA (txtF r) = (txtZ r.num, txtZ r.den) := by
  unfold cutA txtF
  rcases index_cases 47 (txtZ r.num ++ [47] ++ txtZ r.den) with ⟨h1, h2⟩ | ⟨x, y, h1, h2, h3⟩
  · exact absurd (by simp) h2
  · obtain ⟨e1, e2⟩ := app_uniq (a := txtZ r.num) (b := txtZ r.den) (x := x) (y := y) (c := 47) (by rw [← h1]; simp) no47 h2
    rw [if_neg (by omega), h3, ← e1]
    simp
def readFr (s : Str) : Option Rat :=
  if (readF (cutA s).1).2 = 0 ∧ (readF (cutA s).2).2 = 0 ∧ 0 < (readF (cutA s).2).1 ∧ gcdZ (readF (cutA s).1).1 (readF (cutA s).2).1 = 1 ∧ txtZ (readF (cutA s).1).1 ++ [47] ++ txtZ (readF (cutA s).2).1 = s then some (Rat.divInt (readF (cutA s).1).1 (readF (cutA s).2).1) else none
theorem readF_okZ (s : Str) : okZ (readF s).1 := by
  rcases readF_cases s with h | h
  · exact h.2.1
  · rw [h.2]; exact okZ.zero
theorem readFr_txt {r : Rat} (h : okF r) : readFr (txtF r) = some r := by
  unfold readFr
  rw [cutA_txt, read_txt h.1, read_txt h.2, if_pos ⟨rfl, rfl, den_pos r, num_den_gcd r, rfl⟩, Rat.num_divInt_den]
theorem readFr_some {s : Str} {r : Rat} (h : readFr s = some r) : okF r ∧ txtF r = s ∧ r.num = (readF (cutA s).1).1 ∧ (r.den : Int) = (readF (cutA s).2).1 := by
  unfold readFr at h
  split at h
  · rename_i hc
    obtain ⟨h1, h2, h3, h4, h5⟩ := hc
    obtain rfl := Option.some.inj h
    obtain ⟨e1, e2⟩ := rat_of h3 h4
    refine ⟨⟨by rw [e1]; exact readF_okZ _, by rw [e2]; exact readF_okZ _⟩, by unfold txtF; rw [e1, e2]; exact h5, e1, e2⟩
  · cases h
def frV (o : Option Rat) : PV := match o with | some r => zF r | none => zF0
def frE (o : Option Rat) : Int := match o with | some _ => 0 | none => 2
attribute [local irreducible] sgn mag gcdZ quoZ remZ txtZ readF fullZ fullE
theorem fread_ok (s : Str) (hs : s.length ≤ 9223372036854775806) : GCalls Tryz.prog 3 powC 21 [cS s] (.tup [frV (readFr s), cI (frE (readFr s))]) := by
  obtain ⟨b, c1⟩ := cutA_ok s hs
  have hl : ∀ t : Str, t = (cutA s).1 ∨ t = (cutA s).2 → t.length ≤ 9223372036854775807 := fun t ht => by
    have e1 : (cutA s).1.length ≤ s.length := by unfold cutA; split <;> simp <;> omega
    have e2 : (cutA s).2.length ≤ s.length := by unfold cutA; split <;> simp <;> omega
    rcases ht with rfl | rfl <;> omega
  have d1 := readF_ok (cutA s).1 (hl _ (.inl rfl))
  have d2 := readF_ok (cutA s).2 (hl _ (.inr rfl))
  have op := readF_okZ (cutA s).1
  have oq := readF_okZ (cutA s).2
  have hdef : readFr s = if (readF (cutA s).1).2 = 0 ∧ (readF (cutA s).2).2 = 0 ∧ 0 < (readF (cutA s).2).1 ∧ gcdZ (readF (cutA s).1).1 (readF (cutA s).2).1 = 1 ∧ txtZ (readF (cutA s).1).1 ++ [47] ++ txtZ (readF (cutA s).2).1 = s then some (Rat.divInt (readF (cutA s).1).1 (readF (cutA s).2).1) else none := rfl
  generalize (readF (cutA s).1).1 = p at *
  generalize (readF (cutA s).1).2 = e at *
  generalize (readF (cutA s).2).1 = q at *
  generalize (readF (cutA s).2).2 = f at *
  generalize (cutA s).1 = u1 at *
  generalize (cutA s).2 = u2 at *
  by_cases hr : 0 < q ∧ gcdZ p q = 1
  · obtain ⟨e1, e2⟩ := rat_of hr.1 hr.2
    have okr : okF (Rat.divInt p q) := ⟨by rw [e1]; exact op, by rw [e2]; exact oq⟩
    have r1 := fright_yes _ okr
    have t1 := ftext_ok _ okr
    rw [show zF (Rat.divInt p q) = zF2 p q by show zF2 (Rat.divInt p q).num ((Rat.divInt p q).den : Int) = _; rw [e1, e2]] at r1 t1
    have et : txtF (Rat.divInt p q) = txtZ p ++ [47] ++ txtZ q := by unfold txtF; rw [e1, e2]
    rw [et] at t1
    by_cases hc : (e = 0 ∧ f = 0) ∧ txtZ p ++ [47] ++ txtZ q = s
    · rw [hdef, if_pos ⟨hc.1.1, hc.1.2, hr.1, hr.2, hc.2⟩]
      rw [show frV (some (Rat.divInt p q)) = zF2 p q by show zF2 (Rat.divInt p q).num ((Rat.divInt p q).den : Int) = _; rw [e1, e2], show frE (some (Rat.divInt p q)) = 0 from rfl]
      generalize txtZ p ++ [47] ++ txtZ q = tx at *
      have hbad : ¬ ((e = 0 ∧ f = 0) ∧ tx = s) → False := fun h => h hc
      have hbad2 : (e = 0 → f = 0 → ¬ tx = s) → False := fun h => h hc.1.1 hc.1.2 hc.2
      refine GCalls.of_M TYok (qs := [zF2 p q, cI 0]) [.cell 2 26, .tmp 3] 49 Tryz.func21 (by kernel_rfl) rfl rfl rfl fun G hG => ?_
      refine W.initA (hw := ?_)
      repeat' (first
        | (refine W.purgeR [(5, [0, 2, 8, 10, 11])] rfl (by repeat (first | exact PN.nil | apply PN.po rfl | (apply PN.pa; exact rfl; (repeat (first | (apply NR.cons; exact rfl) | exact NR.nil rfl))) | apply PN.a rfl | apply PN.s rfl | apply PN.u rfl | apply PN.m rfl | apply PN.k rfl | apply PN.i rfl | apply PN.skip)) (by repeat (first | exact PB.nil | (apply PB.one; exact rfl; (focus (first | (dsimp only; done) | (dsimp only; exact rfl) | exact rfl)); (focus (first | (dsimp only; done) | (dsimp only; exact rfl) | exact rfl)); exact rfl; (repeat (first | (apply NR.cons; exact rfl) | exact NR.nil rfl)))  | apply PB.cons rfl)) ?_)
        | ((first | apply U_ | (apply Ug_; exact rfl; exact rfl) | (apply Ugq_; exact rfl; exact rfl)); (first
    | exact QX.Move TYok
    | exact QX.Asg TYok
    | exact QX.Ld TYok
    | exact QX.Bin TYok
    | exact QX.Pick TYok
    | exact QX.Ext TYok
    | exact QX.Build TYok
    | (apply Q_calld (c1); exact EvD.auto)
    | (apply Q_calld (d1); exact EvD.auto)
    | (apply Q_calld (d2); exact EvD.auto)
    | (apply Q_calld (r1); exact EvD.auto)
    | (apply Q_callG hG (t1); exact EvL.auto; exact rfl)
    | (apply Q_callGd hG (t1); exact EvD.auto)); exact rfl)
        | refine SX.Alloc TYok (h := ?_)
        | refine SX.Store TYok (h := ?_)
        | apply RG.nil
        | apply Lex.nil
        | apply Then.n
        | apply Then.r
        | apply Then.x
        | apply InBlock.n
        | apply InBlock.r
        | apply InBlock.hit
        | (apply InBlock.miss; exact rfl)
        | apply W.seq
        | apply W.region
        | apply W.block
        | apply W.skip
        | apply W.ret
        | apply W.exit
        | (apply S_isnil TYok; exact rfl; exact rfl; exact rfl; exact Ev.auto; intro bn hnil)
        | (apply RG.gT; exact rfl; exact rfl; (first | assumption | decide))
        | (apply RG.gF; exact rfl; exact rfl; (first | assumption | decide | (rw [ne_eq, Bool.not_eq_true]; assumption) | (rw [ne_eq, Bool.not_eq_false]; assumption)); exact rfl)
        | (refine W.condA (ht := fun hb => ?_) (hf := fun hb => ?_) <;> (try simp at hb) <;> (try (exfalso; first | exact hbad2 hb | exact hbad hb | omega))))
      all_goals first
        | exact FinM.ret ResM.auto
        | trace_state
    · rw [hdef, if_neg (fun h => hc ⟨⟨h.1, h.2.1⟩, h.2.2.2.2⟩)]
      generalize txtZ p ++ [47] ++ txtZ q = tx at *
      have hbad : (e = 0 ∧ f = 0) ∧ tx = s → False := hc
      show GCalls Tryz.prog 3 powC 21 [cS s] (.tup [zF0, cI 2])
      refine GCalls.of_M TYok (qs := [zF0, cI 2]) [.cell 2 26, .tmp 3] 49 Tryz.func21 (by kernel_rfl) rfl rfl rfl fun G hG => ?_
      refine W.initA (hw := ?_)
      repeat' (first
        | (refine W.purgeR [(5, [0, 2, 8, 10, 11])] rfl (by repeat (first | exact PN.nil | apply PN.po rfl | (apply PN.pa; exact rfl; (repeat (first | (apply NR.cons; exact rfl) | exact NR.nil rfl))) | apply PN.a rfl | apply PN.s rfl | apply PN.u rfl | apply PN.m rfl | apply PN.k rfl | apply PN.i rfl | apply PN.skip)) (by repeat (first | exact PB.nil | (apply PB.one; exact rfl; (focus (first | (dsimp only; done) | (dsimp only; exact rfl) | exact rfl)); (focus (first | (dsimp only; done) | (dsimp only; exact rfl) | exact rfl)); exact rfl; (repeat (first | (apply NR.cons; exact rfl) | exact NR.nil rfl)))  | apply PB.cons rfl)) ?_)
        | ((first | apply U_ | (apply Ug_; exact rfl; exact rfl) | (apply Ugq_; exact rfl; exact rfl)); (first
    | exact QX.Move TYok
    | exact QX.Asg TYok
    | exact QX.Ld TYok
    | exact QX.Bin TYok
    | exact QX.Pick TYok
    | exact QX.Ext TYok
    | exact QX.Build TYok
    | (apply Q_calld (c1); exact EvD.auto)
    | (apply Q_calld (d1); exact EvD.auto)
    | (apply Q_calld (d2); exact EvD.auto)
    | (apply Q_calld (r1); exact EvD.auto)
    | (apply Q_callG hG (t1); exact EvL.auto; exact rfl)
    | (apply Q_callGd hG (t1); exact EvD.auto)); exact rfl)
        | refine SX.Alloc TYok (h := ?_)
        | refine SX.Store TYok (h := ?_)
        | apply RG.nil
        | apply Lex.nil
        | apply Then.n
        | apply Then.r
        | apply Then.x
        | apply InBlock.n
        | apply InBlock.r
        | apply InBlock.hit
        | (apply InBlock.miss; exact rfl)
        | apply W.seq
        | apply W.region
        | apply W.block
        | apply W.skip
        | apply W.ret
        | apply W.exit
        | (apply S_isnil TYok; exact rfl; exact rfl; exact rfl; exact Ev.auto; intro bn hnil)
        | (apply RG.gT; exact rfl; exact rfl; (first | assumption | decide))
        | (apply RG.gF; exact rfl; exact rfl; (first | assumption | decide | (rw [ne_eq, Bool.not_eq_true]; assumption) | (rw [ne_eq, Bool.not_eq_false]; assumption)); exact rfl)
        | (refine W.condA (ht := fun hb => ?_) (hf := fun hb => ?_) <;> (try simp at hb) <;> (try (exfalso; first | exact hbad hb | omega))))
      all_goals first
        | exact FinM.ret (ResM.cell rfl rfl rfl rfl zeroSubF (ResM.tmp rfl rfl PSub.rfl' ResM.nil))
        | trace_state
  · rw [hdef, if_neg (fun h => hr ⟨h.2.2.1, h.2.2.2.1⟩)]
    have hno : rightFB (sgn p) (digs (mag p)) (sgn q) (digs (mag q)) = false := by
      have c := sgn_cases q
      cases hx : rightFB (sgn p) (digs (mag p)) (sgn q) (digs (mag q)) with
      | false => rfl
      | true =>
        exfalso
        unfold rightFB at hx
        simp only [Bool.and_eq_true, decide_eq_true_iff] at hx
        obtain ⟨⟨_, h1⟩, hg⟩ := hx
        rw [val_mag, val_mag, sgn_mag, show mag q = q by omega] at hg
        exact hr ⟨by omega, hg⟩
    have lp := num_len op
    have lq := num_len oq
    have r1 := fright_ok (sgn p) (digs (mag p)) (sgn q) (digs (mag q)) (by omega) (by omega)
    rw [hno] at r1
    have t1 := ftext_no (sgn p) (digs (mag p)) (sgn q) (digs (mag q)) (by omega) (by omega) hno
    show GCalls Tryz.prog 3 powC 21 [cS s] (.tup [zF0, cI 2])
    refine GCalls.of_M TYok (qs := [zF0, cI 2]) [.cell 2 26, .tmp 3] 49 Tryz.func21 (by kernel_rfl) rfl rfl rfl fun G hG => ?_
    refine W.initA (hw := ?_)
    repeat' (first
      | (refine W.purgeR [(5, [0, 2, 8, 10, 11])] rfl (by repeat (first | exact PN.nil | apply PN.po rfl | (apply PN.pa; exact rfl; (repeat (first | (apply NR.cons; exact rfl) | exact NR.nil rfl))) | apply PN.a rfl | apply PN.s rfl | apply PN.u rfl | apply PN.m rfl | apply PN.k rfl | apply PN.i rfl | apply PN.skip)) (by repeat (first | exact PB.nil | (apply PB.one; exact rfl; (focus (first | (dsimp only; done) | (dsimp only; exact rfl) | exact rfl)); (focus (first | (dsimp only; done) | (dsimp only; exact rfl) | exact rfl)); exact rfl; (repeat (first | (apply NR.cons; exact rfl) | exact NR.nil rfl)))  | apply PB.cons rfl)) ?_)
      | ((first | apply U_ | (apply Ug_; exact rfl; exact rfl) | (apply Ugq_; exact rfl; exact rfl)); (first
    | exact QX.Move TYok
    | exact QX.Asg TYok
    | exact QX.Ld TYok
    | exact QX.Bin TYok
    | exact QX.Pick TYok
    | exact QX.Ext TYok
    | exact QX.Build TYok
    | (apply Q_calld (c1); exact EvD.auto)
    | (apply Q_calld (d1); exact EvD.auto)
    | (apply Q_calld (d2); exact EvD.auto)
    | (apply Q_calld (r1); exact EvD.auto)
    | (apply Q_calld (t1); exact EvD.auto)); exact rfl)
      | refine SX.Alloc TYok (h := ?_)
      | refine SX.Store TYok (h := ?_)
      | apply RG.nil
      | apply Lex.nil
      | apply Then.n
      | apply Then.r
      | apply Then.x
      | apply InBlock.n
      | apply InBlock.r
      | apply InBlock.hit
      | (apply InBlock.miss; exact rfl)
      | apply W.seq
      | apply W.region
      | apply W.block
      | apply W.skip
      | apply W.ret
      | apply W.exit
      | (apply S_isnil TYok; exact rfl; exact rfl; exact rfl; exact Ev.auto; intro bn hnil)
      | (apply RG.gT; exact rfl; exact rfl; (first | assumption | decide))
      | (apply RG.gF; exact rfl; exact rfl; (first | assumption | decide | (rw [ne_eq, Bool.not_eq_true]; assumption) | (rw [ne_eq, Bool.not_eq_false]; assumption)); exact rfl)
      | (refine W.condA (ht := fun hb => ?_) (hf := fun hb => ?_) <;> (try simp at hb) <;> (try (exfalso; omega))))
    all_goals first
      | exact FinM.ret (ResM.cell rfl rfl rfl rfl zeroSubF (ResM.tmp rfl rfl PSub.rfl' ResM.nil))
      | trace_state
end
section
theorem sameBig_ok (s s' : Int) (a b : List Int) (hl : a.length ≤ 1000000) (hl' : b.length ≤ 1000000) : ACalls Tryz.prog 31 [aB s a, aB s' b] (.pv (cB (decide (s = s') && decide (a = b)))) := by
  by_cases h0 : s = s' ∧ a.length = b.length
  case neg =>
    have e : (decide (s = s') && decide (a = b)) = false := by
      rw [Bool.and_eq_false_iff, decide_eq_false_iff_not, decide_eq_false_iff_not]
      by_cases hs : s = s'
      · exact .inr fun e => h0 ⟨hs, by rw [e]⟩
      · exact .inl hs
    rw [e]
    refine ACalls.of_W (qs := [cB false]) [4] 38 Tryz.func31 (by kernel_rfl) rfl rfl rfl fun G => ?_
    refine W.initA (hw := ?_)
    repeat' (first
      | (exfalso; omega)
      | ((first | apply U_ | (apply Ug_; exact rfl; exact rfl) | (apply Ugq_; exact rfl; exact rfl) | apply Lex.u | (apply Lex.g; exact rfl; exact rfl) | (apply Lex.gq; exact rfl; exact rfl)); (first
    | exact QX.Move TYok
    | exact QX.Asg TYok
    | exact QX.Fld TYok
    | exact QX.Ld TYok
    | exact QX.Bin TYok
    | exact QX.Pick TYok
    | exact QX.Len TYok
    | exact QX.Idx TYok); exact rfl)
      | refine SX.Box TYok (h := ?_)
      | apply RG.nil
      | apply Lex.nil
      | apply Then.n
      | apply Then.r
      | apply Then.x
      | apply InBlock.n
      | apply InBlock.r
      | apply InBlock.hit
      | (apply InBlock.miss; exact rfl)
      | apply W.seq
      | apply W.region
      | apply W.block
      | apply W.skip
      | apply W.ret
      | apply W.exit
      | (apply RG.gT; exact rfl; exact rfl; (first | assumption | decide))
      | (apply RG.gF; exact rfl; exact rfl; (first | assumption | decide | (rw [ne_eq, Bool.not_eq_true]; assumption) | (rw [ne_eq, Bool.not_eq_false]; assumption)); exact rfl)
      | (apply W.draw2 (id := 6) [0, 1, 0, 7, 15, 0, 32, 0, 224, 480, 1023] [[2], [27], [5], [28, 29], [30], [3], [32], [5], [33, 34], [35], [31, 36]] 11 [(27, 4), (28, 134217728), (29, 32), (30, 805306368), (31, 1073741824), (32, 8), (33, 4294967296), (34, 32), (35, 25769803776), (36, 34359738368), (37, 70866960384)] mixed (by kernel_rfl) rfl rfl)
      | (refine W.condA (ht := fun hb => ?_) (hf := fun hb => ?_) <;> (try simp at hb) <;> (try (exfalso; omega))))
    exact Fin.ret ResL.auto
  obtain ⟨rfl, hab⟩ := h0
  rw [decide_eq_true rfl, Bool.true_and]
  refine ACalls.of_W (qs := [cB (decide (a = b))]) [4] 38 Tryz.func31 (by kernel_rfl) rfl rfl rfl fun G => ?_
  refine W.initA (hw := ?_)
  repeat' (first
    | ((first | apply U_ | (apply Ug_; exact rfl; exact rfl) | (apply Ugq_; exact rfl; exact rfl) | apply Lex.u | (apply Lex.g; exact rfl; exact rfl) | (apply Lex.gq; exact rfl; exact rfl)); (first
    | exact QX.Move TYok
    | exact QX.Asg TYok
    | exact QX.Fld TYok
    | exact QX.Ld TYok
    | exact QX.Bin TYok
    | exact QX.Pick TYok
    | exact QX.Len TYok
    | exact QX.Idx TYok); exact rfl)
    | refine SX.Box TYok (h := ?_)
    | apply RG.nil
    | apply Lex.nil
    | apply Then.n
    | apply Then.r
    | apply Then.x
    | apply InBlock.n
    | apply InBlock.r
    | apply InBlock.hit
    | (apply InBlock.miss; exact rfl)
    | apply W.seq
    | apply W.region
    | apply W.block
    | apply W.skip
    | apply W.ret
    | apply W.exit
    | (apply RG.gT; exact rfl; exact rfl; (first | assumption | decide))
    | (apply RG.gF; exact rfl; exact rfl; (first | assumption | decide | (rw [ne_eq, Bool.not_eq_true]; assumption) | (rw [ne_eq, Bool.not_eq_false]; assumption)); exact rfl)
    | (apply W.draw2 (id := 6) [0, 1, 0, 7, 15, 0, 32, 0, 224, 480, 1023] [[2], [27], [5], [28, 29], [30], [3], [32], [5], [33, 34], [35], [31, 36]] 11 [(27, 4), (28, 134217728), (29, 32), (30, 805306368), (31, 1073741824), (32, 8), (33, 4294967296), (34, 32), (35, 25769803776), (36, 34359738368), (37, 70866960384)] mixed (by kernel_rfl) rfl rfl)
    | (refine W.condA (ht := fun hb => ?_) (hf := fun hb => ?_) <;> (try simp at hb) <;> (try (exfalso; omega))))
  apply W.loopP (σ := Nat) 38 [2, 3] (fun k => k ≤ a.length ∧ a.take k = b.take k) (fun k => [(5, vI k)]) (fun _ => [(2, ⟨24, 2, [[.int .i64 s, .sl (a.map Lf.encI)]]⟩), (3, ⟨24, 2, [[.int .i64 s, .sl (b.map Lf.encI)]]⟩)]) (fun k => a.length - k) (0)
  case hp => repeat (first | exact Pick.nil | apply Pick.cons rfl)
  case h0 =>
    refine ⟨by simp, ?_⟩
    exact Le.auto
  case round =>
    rintro k ⟨g1, g2⟩
    apply W.norm (by repeat (first | exact App.nil | apply App.cons))
    repeat' (first
      | ((first | apply U_ | (apply Ug_; exact rfl; exact rfl) | (apply Ugq_; exact rfl; exact rfl) | apply Lex.u | (apply Lex.g; exact rfl; exact rfl) | (apply Lex.gq; exact rfl; exact rfl)); (first
    | exact QX.Move TYok
    | exact QX.Asg TYok
    | exact QX.Fld TYok
    | exact QX.Ld TYok
    | exact QX.Bin TYok
    | exact QX.Pick TYok
    | exact QX.Len TYok
    | exact QX.Idx TYok); exact rfl)
      | refine SX.Box TYok (h := ?_)
      | apply RG.nil
      | apply Lex.nil
      | apply Then.n
      | apply Then.r
      | apply Then.x
      | apply InBlock.n
      | apply InBlock.r
      | apply InBlock.hit
      | (apply InBlock.miss; exact rfl)
      | apply W.seq
      | apply W.region
      | apply W.block
      | apply W.skip
      | apply W.ret
      | apply W.exit
      | (apply RG.gT; exact rfl; exact rfl; (first | assumption | decide))
      | (apply RG.gF; exact rfl; exact rfl; (first | assumption | decide | (rw [ne_eq, Bool.not_eq_true]; assumption) | (rw [ne_eq, Bool.not_eq_false]; assumption)); exact rfl)
      | (apply W.draw2 (id := 6) [0, 1, 0, 7, 15, 0, 32, 0, 224, 480, 1023] [[2], [27], [5], [28, 29], [30], [3], [32], [5], [33, 34], [35], [31, 36]] 11 [(27, 4), (28, 134217728), (29, 32), (30, 805306368), (31, 1073741824), (32, 8), (33, 4294967296), (34, 32), (35, 25769803776), (36, 34359738368), (37, 70866960384)] mixed (by kernel_rfl) rfl rfl)
      | (refine W.condA (ht := fun hb => ?_) (hf := fun hb => ?_) <;> (try simp at hb) <;> (try (exfalso; omega))))
    · rw [decide_eq_false (fun e => by subst e; omega)]
      exact Fin.ret ResL.auto
    · refine ⟨k + 1, ⟨by omega, ?_⟩, ?_, by omega⟩
      · rw [take_nth (by omega), take_nth (by omega), g2, hb]
      · exact Le.auto
    · obtain rfl : k = a.length := by omega
      rw [List.take_length, hab, List.take_length] at g2
      rw [decide_eq_true g2]
      exact Fin.ret ResL.auto
theorem sameBigZ_ok (x y : Int) (hx : okZ x) (hy : okZ y) : ACalls Tryz.prog 31 [zB x, zB y] (.pv (cB (decide (x = y)))) := by
  have h := sameBig_ok (sgn x) (sgn y) (digs (mag x)) (digs (mag y)) (by have := num_len hx; omega) (by have := num_len hy; omega)
  rw [show (decide (sgn x = sgn y) && decide (digs (mag x) = digs (mag y))) = decide (x = y) by
    rw [Bool.eq_iff_iff, Bool.and_eq_true, decide_eq_true_iff, decide_eq_true_iff, decide_eq_true_iff]
    exact ⟨fun h => num_inj h.1 h.2, fun h => by rw [h]; exact ⟨rfl, rfl⟩⟩] at h
  exact h
theorem same_frac (a b : Rat) : (decide (a.num = b.num) && decide ((a.den : Int) = b.den)) = decide (a = b) := by
  rw [← Bool.decide_and]
  exact decide_eq_decide.2 ⟨fun h => Rat.ext h.1 (by omega), fun h => by subst h; exact ⟨rfl, rfl⟩⟩
theorem few_ok (s : Int) (l : List Int) (s' : Int) (l' : List Int) (n : Int) (hl : l.length ≤ 9223372036854775807) (hl' : l'.length ≤ 9223372036854775807) : ACalls Tryz.prog 9 [fB s l s' l', cI n] (.pv (cB (decide ((l.length : Int) ≤ n) && decide ((l'.length : Int) ≤ n)))) := by
  refine ACalls.of_W (qs := [cB (decide ((l.length : Int) ≤ n) && decide ((l'.length : Int) ≤ n))]) [4] 19 Tryz.func9 (by kernel_rfl) rfl rfl rfl fun G => ?_
  refine W.initA (hw := ?_)
  repeat' (first
    | ((first | apply U_ | (apply Ug_; exact rfl; exact rfl) | (apply Ugq_; exact rfl; exact rfl)); (first
    | exact QX.Move TYok
    | exact QX.Asg TYok
    | exact QX.Fld TYok
    | exact QX.Ld TYok
    | exact QX.Bin TYok
    | exact QX.Pick TYok
    | exact QX.Len TYok); exact rfl)
    | refine SX.Box TYok (h := ?_)
    | apply RG.nil
    | apply Lex.nil
    | apply Then.n
    | apply Then.r
    | apply Then.x
    | apply InBlock.n
    | apply InBlock.r
    | apply InBlock.hit
    | (apply InBlock.miss; exact rfl)
    | apply W.seq
    | apply W.region
    | apply W.block
    | apply W.skip
    | apply W.ret
    | apply W.exit
    | (apply RG.gT; exact rfl; exact rfl; (first | assumption | decide))
    | (apply RG.gF; exact rfl; exact rfl; (first | assumption | decide | (rw [ne_eq, Bool.not_eq_true]; assumption) | (rw [ne_eq, Bool.not_eq_false]; assumption)); exact rfl)
    | (refine W.condA (ht := fun hb => ?_) (hf := fun hb => ?_) <;> (try simp at hb) <;> (try (exfalso; omega))))
  all_goals exact Fin.ret ResL.auto
attribute [local irreducible] sgn mag gcdZ quoZ remZ txtZ readF fullZ fullE
theorem same_ok (a b : Rat) (ha : okF a) (hB : okF b) : ACalls Tryz.prog 14 [zF a, zF b] (.pv (cB (decide (a = b)))) := by
  have s1 := sameBigZ_ok a.num b.num ha.1 hB.1
  have s2 := sameBigZ_ok a.den b.den ha.2 hB.2
  rw [← same_frac]
  refine ACalls.of_W (qs := [cB (decide (a.num = b.num) && decide ((a.den : Int) = b.den))]) [4] 17 Tryz.func14 (by kernel_rfl) rfl rfl rfl fun G => ?_
  refine W.initA (hw := ?_)
  repeat' (first
    | ((first | apply U_ | (apply Ug_; exact rfl; exact rfl) | (apply Ugq_; exact rfl; exact rfl)); (first
    | exact QX.Move TYok
    | exact QX.Asg TYok
    | exact QX.Fld TYok
    | exact QX.Ld TYok
    | exact QX.Pick TYok
    | (apply Q_calld (s1); exact EvD.auto)
    | (apply Q_calld (s2); exact EvD.auto)); exact rfl)
    | refine SX.Box TYok (h := ?_)
    | apply RG.nil
    | apply Lex.nil
    | apply Then.n
    | apply Then.r
    | apply Then.x
    | apply InBlock.n
    | apply InBlock.r
    | apply InBlock.hit
    | (apply InBlock.miss; exact rfl)
    | apply W.seq
    | apply W.region
    | apply W.block
    | apply W.skip
    | apply W.ret
    | apply W.exit
    | (apply RG.gT; exact rfl; exact rfl; (first | assumption | decide))
    | (apply RG.gF; exact rfl; exact rfl; (first | assumption | decide | (rw [ne_eq, Bool.not_eq_true]; assumption) | (rw [ne_eq, Bool.not_eq_false]; assumption)); exact rfl)
    | (refine W.condA (ht := fun hb => ?_) (hf := fun hb => ?_) <;> (try simp at hb) <;> (try (exfalso; omega))))
  all_goals exact Fin.ret ResL.auto
theorem Of_ok (p q : Int) (hp : i64B p) (hq : i64B q) (h0 : q ≠ 0) : ACalls Tryz.prog 19 [cI p, cI q] (.tup [zF (Rat.divInt p q), cI 0]) := by
  have z1 := ofZ_ok p hp
  have z2 := ofZ_ok q hq
  have n1 := new_ok p q (i64_ok hp) (i64_ok hq) h0
  generalize Rat.divInt p q = r at *
  refine ACalls.of_M TYok (qs := [zF r, cI 0]) [.cell 4 26, .tmp 5] 13 Tryz.func19 (by kernel_rfl) rfl rfl rfl fun G => ?_
  refine W.initA (hw := ?_)
  repeat' (first
    | ((first | apply U_); (first
    | exact QX.Move TYok
    | exact QX.Asg TYok
    | exact QX.Ext TYok
    | (apply Q_calld (z1); exact EvD.auto)
    | (apply Q_calld (z2); exact EvD.auto)
    | (apply Q_calld (n1); exact EvD.auto)); exact rfl)
    | refine SX.Alloc TYok (h := ?_)
    | refine SX.Store TYok (h := ?_)
    | apply RG.nil
    | apply Lex.nil
    | apply Then.n
    | apply Then.r
    | apply Then.x
    | apply InBlock.n
    | apply InBlock.r
    | apply InBlock.hit
    | (apply InBlock.miss; exact rfl)
    | apply W.seq
    | apply W.region
    | apply W.block
    | apply W.skip
    | apply W.ret
    | apply W.exit
    | (refine W.condA (ht := fun hb => ?_) (hf := fun hb => ?_) <;> (try simp at hb) <;> (try (exfalso; omega))))
  all_goals exact FinM.ret ResM.auto
theorem Of_zero (p : Int) (hp : i64B p) : ACalls Tryz.prog 19 [cI p, cI 0] (.tup [zF0, cI 15]) := by
  have z1 := ofZ_ok p hp
  have z2 := ofZ_ok 0 (by unfold i64B; omega)
  have n1 := new_zero p (i64_ok hp)
  refine ACalls.of_M TYok (qs := [zF0, cI 15]) [.cell 4 26, .tmp 5] 13 Tryz.func19 (by kernel_rfl) rfl rfl rfl fun G => ?_
  refine W.initA (hw := ?_)
  repeat' (first
    | ((first | apply U_); (first
    | exact QX.Move TYok
    | exact QX.Asg TYok
    | exact QX.Ext TYok
    | (apply Q_calld (z1); exact EvD.auto)
    | (apply Q_calld (z2); exact EvD.auto)
    | (apply Q_calld (n1); exact EvD.auto)); exact rfl)
    | refine SX.Alloc TYok (h := ?_)
    | refine SX.Store TYok (h := ?_)
    | apply RG.nil
    | apply Lex.nil
    | apply Then.n
    | apply Then.r
    | apply Then.x
    | apply InBlock.n
    | apply InBlock.r
    | apply InBlock.hit
    | (apply InBlock.miss; exact rfl)
    | apply W.seq
    | apply W.region
    | apply W.block
    | apply W.skip
    | apply W.ret
    | apply W.exit
    | (refine W.condA (ht := fun hb => ?_) (hf := fun hb => ?_) <;> (try simp at hb) <;> (try (exfalso; omega))))
  all_goals exact FinM.ret ResM.auto
theorem of_ok (p q : Int) (hp : i64B p) (hq : i64B q) (h0 : q ≠ 0) : ACalls Tryz.prog 35 [cI p, cI q] (.pv (zF (Rat.divInt p q))) := by
  have n1 := Of_ok p q hp hq h0
  generalize Rat.divInt p q = r at *
  refine ACalls.of_M TYok (qs := [zF r]) [.cell 4 26] 14 Tryz.func35 (by kernel_rfl) rfl rfl rfl fun G => ?_
  refine W.initA (hw := ?_)
  repeat' (first
    | ((first | apply U_); (first
    | exact QX.Move TYok
    | exact QX.Asg TYok
    | exact QX.Ld TYok
    | exact QX.Ext TYok
    | (apply Q_calld (n1); exact EvD.auto)); exact rfl)
    | refine SX.Alloc TYok (h := ?_)
    | refine SX.Store TYok (h := ?_)
    | apply RG.nil
    | apply Lex.nil
    | apply Then.n
    | apply Then.r
    | apply Then.x
    | apply InBlock.n
    | apply InBlock.r
    | apply InBlock.hit
    | (apply InBlock.miss; exact rfl)
    | apply W.seq
    | apply W.region
    | apply W.block
    | apply W.skip
    | apply W.ret
    | apply W.exit
    | (refine W.condA (ht := fun hb => ?_) (hf := fun hb => ?_) <;> (try simp at hb) <;> (try (exfalso; omega))))
  all_goals exact FinM.ret ResM.auto
theorem right_ok2 (r : Rat) (h : okF r) (e : Int) : ACalls Tryz.prog 34 [zF r, cI e] (.tup [zF r, cB (decide (e = 0))]) := by
  have r1 := fright_yes r h
  refine ACalls.of_M TYok (qs := [zF r, cB (decide (e = 0))]) [.cell 4 26, .tmp 5] 13 Tryz.func34 (by kernel_rfl) rfl rfl rfl fun G => ?_
  refine W.initA (hw := ?_)
  repeat' (first
    | ((first | apply U_ | (apply Ug_; exact rfl; exact rfl) | (apply Ugq_; exact rfl; exact rfl)); (first
    | exact QX.Move TYok
    | exact QX.Asg TYok
    | exact QX.Ld TYok
    | exact QX.Bin TYok
    | exact QX.Pick TYok
    | (apply Q_calld (r1); exact EvD.auto)); exact rfl)
    | refine SX.Alloc TYok (h := ?_)
    | refine SX.Store TYok (h := ?_)
    | refine SX.Box TYok (h := ?_)
    | apply RG.nil
    | apply Lex.nil
    | apply Then.n
    | apply Then.r
    | apply Then.x
    | apply InBlock.n
    | apply InBlock.r
    | apply InBlock.hit
    | (apply InBlock.miss; exact rfl)
    | apply W.seq
    | apply W.region
    | apply W.block
    | apply W.skip
    | apply W.ret
    | apply W.exit
    | (apply S_isnil TYok; exact rfl; exact rfl; exact rfl; exact Ev.auto; intro bn hnil)
    | (apply RG.gT; exact rfl; exact rfl; (first | assumption | decide))
    | (apply RG.gF; exact rfl; exact rfl; (first | assumption | decide | (rw [ne_eq, Bool.not_eq_true]; assumption) | (rw [ne_eq, Bool.not_eq_false]; assumption)); exact rfl)
    | apply LexS.nil
    | (apply LexS.f; exact rfl; (first | (apply FreshV.alloc TYok; exact rfl; exact rfl; exact rfl; exact rfl) | (apply FreshV.lit TYok; (repeat (first | exact EvR.nil | apply EvR.cons Ev.auto)); exact rfl; exact rfl; exact rfl; exact rfl; exact rfl; exact rfl; exact rfl; exact rfl; exact rfl) | (apply FreshV.box; exact Ev.auto; exact rfl; exact rfl; exact rfl)); exact rfl; exact rfl; exact rfl)
    | (apply LexS.s; exact rfl; exact rfl; (apply StoreV.mk TYok; exact Ev.auto; exact Ev.auto; exact rfl; exact rfl; exact rfl; exact rfl; exact rfl))
    | ((first | apply LexS.u | (apply LexS.g; exact rfl; exact rfl) | (apply LexS.gq; exact rfl; exact rfl)); (repeat (first | (apply NB.cons; exact rfl) | exact NB.nil rfl)); (first | exact QX.Move TYok | exact QX.Asg TYok | exact QX.Ld TYok | exact QX.Bin TYok | exact QX.Pick TYok | (apply Q_calld (r1); exact EvD.auto)); exact rfl; exact rfl; exact rfl)
    | (refine W.drawS (id := 1) [0, 0, 2, 6, 14, 30, 62, 63, 255] [[2], [1], [7], [8], [2, 9], [10, 9], [9, 11], [4, 6], [12]] [(7, (4, ?_))] [(7, 4)] mixed (by kernel_rfl) rfl ?_; rotate_left 1)
    | (refine W.condA (ht := fun hb => ?_) (hf := fun hb => ?_) <;> (try simp at hb) <;> (try (exfalso; omega))))
  all_goals first
    | exact FinM.ret ResM.auto
    | trace_state
end
section
theorem eg (p q : Int) : i64B p ∧ i64B q ↔ (-9223372036854775808 ≤ p ∧ p ≤ 9223372036854775807) ∧ (-9223372036854775808 ≤ q ∧ q ≤ 9223372036854775807) := Iff.rfl
theorem k1 : okF (Rat.divInt 1 2) ∧ okF (Rat.divInt 1 3) ∧ okF (Rat.divInt 5 6) ∧ okF (Rat.divInt 1 6) ∧ okF (Rat.divInt 3 2) ∧ okF (Rat.divInt (-3) 2) ∧ okF (Rat.divInt (-1) 2) ∧ okF (Rat.divInt (-1) 3) ∧ okF (Rat.divInt 0 7) := by
  unfold okF okZ; decide +kernel
theorem k2 : addOk (Rat.divInt 1 2) (Rat.divInt 1 3) ∧ addOk (Rat.divInt 1 2) (-Rat.divInt 1 3) ∧ mulOk (Rat.divInt 1 2) (Rat.divInt 1 3) ∧ divOk (Rat.divInt 1 2) (Rat.divInt 1 3) := by
  unfold addOk mulOk divOk sumOk okZ; decide +kernel
theorem k3 : Rat.divInt 1 2 + Rat.divInt 1 3 = Rat.divInt 5 6 ∧ Rat.divInt 1 2 - Rat.divInt 1 3 = Rat.divInt 1 6 ∧ Rat.divInt 1 2 * Rat.divInt 1 3 = Rat.divInt 1 6 ∧ Rat.divInt 1 2 / Rat.divInt 1 3 = Rat.divInt 3 2 ∧ Rat.divInt 6 (-4) = Rat.divInt (-3) 2 := by decide +kernel
theorem k4 : txtF (Rat.divInt 5 6) = [53, 47, 54] ∧ txtF (Rat.divInt 1 6) = [49, 47, 54] ∧ txtF (Rat.divInt 3 2) = [51, 47, 50] ∧ txtF (Rat.divInt (-3) 2) = [45, 51, 47, 50] ∧ txtF (Rat.divInt 0 7) = [48, 47, 49] := by decide +kernel
theorem k5 : cmpR (Rat.divInt (-1) 2) (Rat.divInt (-1) 3) = -1 ∧ quoZ (Rat.divInt (-3) 2).num (Rat.divInt (-3) 2).den = -2 := by decide +kernel
theorem k6 : readFr [50, 47, 52] = none ∧ readFr [45, 51, 47, 50] = some (Rat.divInt (-3) 2) := by decide +kernel
theorem k7 : (Rat.divInt 1 3).num ≠ 0 := by decide +kernel
theorem k8 : rightFB 0 [] 0 [] = false := by decide +kernel
attribute [local irreducible] sgn mag gcdZ quoZ remZ txtZ readF fullZ fullE txtF readFr cmpR Rat.divInt
theorem small_ok : GCalls Tryz.prog 3 powC 8 [] (.pv (cB true)) := by
  obtain ⟨o12, o13, o56, o16, o32, om32, om12, om13, o07⟩ := k1
  obtain ⟨a1, a2, m1, d1⟩ := k2
  obtain ⟨e1, e2, e3, e4, e5⟩ := k3
  obtain ⟨x1, x2, x3, x4, x5⟩ := k4
  have i64 : ∀ n : Int, -9 ≤ n → n ≤ 9 → i64B n := fun n h h' => by unfold i64B; omega
  have f1 := of_ok 1 2 (i64 _ (by decide) (by decide)) (i64 _ (by decide) (by decide)) (by decide)
  have f2 := of_ok 1 3 (i64 _ (by decide) (by decide)) (i64 _ (by decide) (by decide)) (by decide)
  have f3 := Of_zero 1 (i64 _ (by decide) (by decide))
  have f4 := of_ok 6 (-4) (i64 _ (by decide) (by decide)) (i64 _ (by decide) (by decide)) (by decide)
  have f5 := of_ok 0 7 (i64 _ (by decide) (by decide)) (i64 _ (by decide) (by decide)) (by decide)
  have f6 := of_ok (-1) 2 (i64 _ (by decide) (by decide)) (i64 _ (by decide) (by decide)) (by decide)
  have f7 := of_ok (-1) 3 (i64 _ (by decide) (by decide)) (i64 _ (by decide) (by decide)) (by decide)
  have f8 := of_ok (-3) 2 (i64 _ (by decide) (by decide)) (i64 _ (by decide) (by decide)) (by decide)
  rw [e5] at f4
  have p1 := add_yes _ _ o12 o13 a1
  rw [e1] at p1
  have p2 := fsub_yes _ _ o12 o13 a2
  rw [e2] at p2
  have p3 := fmul_yes _ _ o12 o13 m1
  rw [e3] at p3
  have p4 := fdiv_yes _ _ o12 o13 k7 d1
  rw [e4] at p4
  have q1 := fread_ok [50, 47, 52] (by decide)
  rw [k6.1] at q1
  have q2 := fread_ok [45, 51, 47, 50] (by decide)
  rw [k6.2] at q2
  replace q1 : GCalls Tryz.prog 3 powC 21 [cS [50, 47, 52]] (.tup [zF0, cI 2]) := q1
  replace q2 : GCalls Tryz.prog 3 powC 21 [cS [45, 51, 47, 50]] (.tup [zF (Rat.divInt (-3) 2), cI 0]) := q2
  have t1 := ftext_ok _ o56
  rw [x1] at t1
  have t2 := ftext_ok _ o16
  rw [x2] at t2
  have t3 := ftext_ok _ o32
  rw [x3] at t3
  have t4 := ftext_ok _ om32
  rw [x4] at t4
  have t5 := ftext_ok _ o07
  rw [x5] at t5
  have c1 := fcmp_ok _ _ om12 om13
  rw [k5.1] at c1
  have l1 := floor_ok _ om32
  rw [k5.2] at l1
  have z1 := ofZ_ok (-2) (i64 _ (by decide) (by decide))
  have okm : okZ (-2) := i64_ok (i64 _ (by decide) (by decide))
  have s1 := sameBigZ_ok (-2) (-2) okm okm
  rw [decide_eq_true rfl] at s1
  have s2 := same_ok _ _ om32 om32
  rw [decide_eq_true rfl] at s2
  have r1 := fright_yes _ o12
  have r2 := fright_ok 0 [] 0 [] (by decide) (by decide)
  rw [k8] at r2
  clear e1 e2 e3 e4 e5 x1 x2 x3 x4 x5 a1 a2 m1 d1 o12 o13 o56 o16 o32 om32 om12 om13 o07
  generalize Rat.divInt 1 2 = g1 at *
  generalize Rat.divInt 1 3 = g2 at *
  generalize Rat.divInt 5 6 = g3 at *
  generalize Rat.divInt 1 6 = g4 at *
  generalize Rat.divInt 3 2 = g5 at *
  generalize Rat.divInt (-3) 2 = g6 at *
  generalize Rat.divInt (-1) 2 = g7 at *
  generalize Rat.divInt (-1) 3 = g8 at *
  generalize Rat.divInt 0 7 = g9 at *
  refine GCalls.of_M TYok (qs := [cB true]) [.tmp 0] 139 Tryz.func8 (by kernel_rfl) rfl rfl rfl fun G hG => ?_
  refine W.initA (hw := ?_)
  repeat' (first
    | (refine W.purgeR [(3, [1, 2]), (4, [1, 2, 4]), (5, [1, 2, 4, 5, 6]), (6, [1, 2, 4, 5, 6, 7, 8]), (7, [1, 2, 4, 5, 6, 7, 8, 9, 10]), (8, [1, 4, 5, 6, 7, 8, 9, 10, 11, 12]), (9, [1, 4, 5, 6, 7, 8, 9, 10, 11, 12, 14]), (10, [1, 4, 5, 6, 7, 8, 9, 10, 11, 12, 14, 15, 16])] rfl (by repeat (first | exact PN.nil | apply PN.po rfl | (apply PN.pa; exact rfl; (repeat (first | (apply NR.cons; exact rfl) | exact NR.nil rfl))) | apply PN.a rfl | apply PN.s rfl | apply PN.u rfl | apply PN.m rfl | apply PN.k rfl | apply PN.i rfl | apply PN.skip)) (by repeat (first | exact PB.nil | (apply PB.one; exact rfl; (focus (first | (dsimp only; done) | (dsimp only; exact rfl) | exact rfl)); (focus (first | (dsimp only; done) | (dsimp only; exact rfl) | exact rfl)); exact rfl; (repeat (first | (apply NR.cons; exact rfl) | exact NR.nil rfl)))  | apply PB.cons rfl)) ?_)
    | ((first | apply U_ | (apply Ug_; exact rfl; exact rfl) | (apply Ugq_; exact rfl; exact rfl) | apply Lex.u | (apply Lex.g; exact rfl; exact rfl) | (apply Lex.gq; exact rfl; exact rfl)); (first
    | exact QX.Move TYok
    | exact QX.Asg TYok
    | exact QX.Ld TYok
    | exact QX.Bin TYok
    | exact QX.Pick TYok
    | exact QX.Un TYok
    | exact QX.Ext TYok
    | exact QX.Build TYok
    | (apply Q_calld (f1); exact EvD.auto)
    | (apply Q_calld (f2); exact EvD.auto)
    | (apply Q_calld (f3); exact EvD.auto)
    | (apply Q_calld (f4); exact EvD.auto)
    | (apply Q_calld (f5); exact EvD.auto)
    | (apply Q_calld (f6); exact EvD.auto)
    | (apply Q_calld (f7); exact EvD.auto)
    | (apply Q_calld (f8); exact EvD.auto)
    | (apply Q_calld (p1); exact EvD.auto)
    | (apply Q_calld (p2); exact EvD.auto)
    | (apply Q_calld (p3); exact EvD.auto)
    | (apply Q_calld (p4); exact EvD.auto)
    | (apply Q_callG hG (q1); exact EvL.auto; exact rfl)
    | (apply Q_callGd hG (q1); exact EvD.auto)
    | (apply Q_callG hG (q2); exact EvL.auto; exact rfl)
    | (apply Q_callGd hG (q2); exact EvD.auto)
    | (apply Q_callG hG (t1); exact EvL.auto; exact rfl)
    | (apply Q_callGd hG (t1); exact EvD.auto)
    | (apply Q_callG hG (t2); exact EvL.auto; exact rfl)
    | (apply Q_callGd hG (t2); exact EvD.auto)
    | (apply Q_callG hG (t3); exact EvL.auto; exact rfl)
    | (apply Q_callGd hG (t3); exact EvD.auto)
    | (apply Q_callG hG (t4); exact EvL.auto; exact rfl)
    | (apply Q_callGd hG (t4); exact EvD.auto)
    | (apply Q_callG hG (t5); exact EvL.auto; exact rfl)
    | (apply Q_callGd hG (t5); exact EvD.auto)
    | (apply Q_calld (c1); exact EvD.auto)
    | (apply Q_calld (l1); exact EvD.auto)
    | (apply Q_calld (z1); exact EvD.auto)
    | (apply Q_calld (s1); exact EvD.auto)
    | (apply Q_calld (s2); exact EvD.auto)
    | (apply Q_calld (r1); exact EvD.auto)
    | (apply Q_calld (r2); exact EvD.cons Ev.auto zeroSubF EvD.nil)); exact rfl)
    | refine SX.Alloc TYok (h := ?_)
    | refine SX.Store TYok (h := ?_)
    | apply RG.nil
    | apply Lex.nil
    | apply Then.n
    | apply Then.r
    | apply Then.x
    | apply InBlock.n
    | apply InBlock.r
    | apply InBlock.hit
    | (apply InBlock.miss; exact rfl)
    | apply W.seq
    | apply W.region
    | apply W.block
    | apply W.skip
    | apply W.ret
    | apply W.exit
    | (apply S_isnil TYok; exact rfl; exact rfl; exact rfl; exact Ev.auto; intro bn hnil)
    | (apply RG.gT; exact rfl; exact rfl; (first | assumption | decide))
    | (apply RG.gF; exact rfl; exact rfl; (first | assumption | decide | (rw [ne_eq, Bool.not_eq_true]; assumption) | (rw [ne_eq, Bool.not_eq_false]; assumption)); exact rfl)
    | (apply W.draw2 (id := 11) [0, 1, 3, 7, 15, 31, 63, 127, 255, 511, 1023, 2047, 4095, 8191, 16383, 32767, 65535, 131071, 262143, 524287, 1048575, 2097151, 4194303, 4194303, 16777215, 33554431, 67108863, 134217727, 268435455, 536870911, 1073741823, 2147483647, 4294967295, 8589934591, 17179869183, 34359738367] [[17], [104], [105], [105], [106, 107, 105], [108, 105], [105, 109], [110], [111], [112, 111], [111], [113, 114, 111], [111, 115], [116], [14, 117], [118, 117], [117, 119], [120], [16, 121], [122, 121], [121, 123], [124], [15, 125], [125], [126, 127, 125], [125, 128], [129], [1, 130], [131, 130], [130, 132], [133], [134], [135, 134], [136, 134], [134, 137], [138]] 36 [(104, 131072), (105, 20282409603651670423947251286016), (106, 40564819207303340847894502572032), (107, 40564819207303340847894502572032), (108, 283953734451123385935261518004224), (109, 365083372865730067631050523148288), (110, 689601926524156794414206543724544), (111, 1298074214633706907132624082305024), (112, 2596148429267413814265248164610048), (113, 7788445287802241442795744493830144), (114, 2596148429267413814265248164610048), (115, 33749929580476379585448226139930624), (116, 44134523297546034842509218798370816), (117, 83076749736557242056487941267521536), (118, 166153499473114484112975882535059456), (119, 498460498419343452338927647605129216), (120, 830767497365572420564879412675215360), (121, 1329227995784915872903807060280344576), (122, 2658455991569831745807614120560754688), (123, 7975367974709495237422842361682067456), (124, 13292279957849158729038070602803445760), (125, 21267647932558653966460912964485513216), (126, 42535295865117307932921825928971059200), (127, 42535295865117307932921825928971026432), (128, 297747071055821155530452781502797185024), (129, 382817662786055771396296433360739237888), (130, 680564733841876926926749214863536422912), (131, 1361129467683753853853498429727072845826), (132, 4083388403051261561560495289181218537472), (133, 6805647338418769269267492148635364229120), (134, 10889035741470030830827987437816582766592), (135, 21778071482940061661655974875633165533184), (136, 65334214448820184984967924626899496599552), (137, 108890357414700308308279874378165827665920), (138, 196002643346460554954903773880698489798656), (0, 348449143727040986586495598010130648530944)] mixed (by kernel_rfl) rfl rfl)
    | (refine W.condA (ht := fun hb => ?_) (hf := fun hb => ?_) <;> (try simp at hb) <;> (try (exfalso; omega))))
  all_goals first
    | exact FinM.ret ResM.auto
    | exact FinM.ret (ResM.tmp rfl rfl (PSub.of_eq (congrArg (fun b => PV.one (Cell.bool b)) (by decide))) ResM.nil)
    | trace_state
end
end Go.Proofs.YtipghibmgfhmpaaGreatDoor
