/-
  Part 10 of what the proof rests on.
-/
import Derived.Test.YtgpcmgjdkefdjaaCS09
import Derived.Test.YtgpcmgjdkefdjaaCS02
import Derived.Test.YtgpcmgjdkefdjaaCS08
import Derived.Test.YtgpcmgjdkefdjaaCS04
section
set_option linter.unusedVariables false
set_option linter.unusedSimpArgs false
set_option maxHeartbeats 8000000
namespace Go.Proofs.Ytgpcmgjdkefdjaa
open Lf Go
attribute [local irreducible] PureOp EffOp Ev RG W Then InBlock Lf.Fin nth App InitE Pick EvL EvD EvP EvR ResL Lf.Lex SubR SubBR RA RAll EvC FinO FinM ResM ResD FinS val pw digs trimL
section
structure Fq where
  s : Int
  d : List Int
  s' : Int
  d' : List Int
instance : Inhabited Fq := ⟨⟨0, [], 0, []⟩⟩
instance : Inhabited Rat := ⟨0⟩
abbrev encF (q : Fq) : List Cell := [.int .i64 q.s, .sl (q.d.map Lf.encI), .int .i64 q.s', .sl (q.d'.map Lf.encI)]
abbrev encQ (r : Rat) : List Cell := [.int .i64 (sgn r.num), .sl ((digs (mag r.num)).map Lf.encI), .int .i64 (sgn r.den), .sl ((digs (mag r.den)).map Lf.encI)]
abbrev fqV (q : Fq) : PV := fB q.s q.d q.s' q.d'
abbrev slF (l : List Fq) : PV := .one (.sl (l.map encF))
abbrev slQ (l : List Rat) : PV := .one (.sl (l.map encQ))
def fqOf (r : Rat) : Fq := ⟨sgn r.num, digs (mag r.num), sgn r.den, digs (mag r.den)⟩
theorem slF_of (L : List Rat) : (L.map fqOf).map encF = L.map encQ := by rw [List.map_map]; rfl
def Fq.right (q : Fq) : Bool := rightFB q.s q.d q.s' q.d'
def FqOk (q : Fq) : Prop := q.d.length ≤ 9223372036854775807 ∧ q.d'.length ≤ 9223372036854775807
theorem Fq.rat {q : Fq} (h : q.right = true) : ∃ r : Rat, okF r ∧ q = fqOf r := by
  obtain ⟨r, h1, h2, h3, h4, h5⟩ := frac_of h
  refine ⟨r, h1, ?_⟩
  cases q
  simp only at h2 h3 h4 h5
  rw [h2, h3, h4, h5]; rfl
/-- the number that a right fraction stands for -/
def Fq.val (q : Fq) : Rat := Rat.divInt (q.s * Lf.val q.d) (Lf.val q.d')
theorem fqOf_val {r : Rat} (h : okF r) : (fqOf r).val = r := by
  unfold Fq.val fqOf
  have hp := den_pos r
  have c := sgn_cases r.den
  rw [val_mag, val_mag, sgn_mag, show mag r.den = r.den by omega, Rat.num_divInt_den]
theorem Fq.of_val {q : Fq} (h : q.right = true) : okF q.val ∧ q = fqOf q.val := by
  obtain ⟨r, h1, rfl⟩ := Fq.rat h
  rw [fqOf_val h1]
  exact ⟨h1, rfl⟩
/-- what stands ahead of a factor -/
def prv (L : List Fq) (k : Nat) : Rat := if k = 0 then 1 else (nth L (k - 1)).val
theorem prv_succ (L : List Fq) (k : Nat) : prv L (k + 1) = (nth L k).val := by
  unfold prv
  rw [if_neg (by omega), show k + 1 - 1 = k by omega]
def chk (L : List Fq) (k : Nat) : Prop := (nth L k).right = true ∧ 0 < (nth L k).val ∧ (nth L k).val ≤ prv L k
def FOk (L : List Fq) : Prop := (∀ k, k < L.length → chk L k) ∧ 1 ≤ L.length ∧ L.length ≤ 60
theorem prv_ok {L : List Fq} {k : Nat} (hk : k ≤ L.length) (h : ∀ j, j < k → chk L j) : okF (prv L k) ∧ prv L k ≤ 1 := by
  induction k with
  | zero => exact ⟨okF_int (n := 1) (by unfold i64B; omega), Rat.le_refl⟩
  | succ k ih =>
    obtain ⟨h1, h2⟩ := ih (by omega) (fun j hj => h j (by omega))
    obtain ⟨c1, c2, c3⟩ := h k (by omega)
    rw [prv_succ]
    exact ⟨(Fq.of_val c1).1, Rat.le_trans c3 h2⟩
theorem FOk_iff {L : List Fq} (h : ∀ k, k < L.length → chk L k) : FOk L ↔ (1 ≤ L.length ∧ L.length ≤ 60) := ⟨fun q => q.2, fun q => ⟨h, q⟩⟩
attribute [local irreducible] sgn mag gcdZ quoZ remZ fullZ fullE
theorem whole_ok (n : Int) (h : i64B n) : ACalls Try.prog 30 [cI n] (.pv (zF (n : Rat))) := by
  have n1 := Of_ok n 1 h (by unfold i64B; omega) (by omega)
  rw [divInt_one] at n1
  generalize (n : Rat) = r at *
  refine ACalls.of_M TYok (qs := [zF r]) [.cell 2 31] 11 Try.func30 (by kernel_rfl) rfl rfl rfl fun G => ?_
  refine W.initA (hw := ?_)
  repeat' (first | ((first | apply U_); (first | exact QX.B TYok | exact QX.Ext TYok | exact QCd (n1)); exact rfl) | refine SX.Alloc TYok (h := ?_) | refine SX.Store TYok (h := ?_) | refine SC ?_ | (refine W.condA (ht := fun hb => ?_) (hf := fun hb => ?_) <;> (try simp at hb) <;> (try (exfalso; omega))))
  all_goals exact FinM.ret ResM.auto
theorem qOf_ok (n m : Int) (h : i64B n) (hm : i64B m) (h0 : m ≠ 0) : ACalls Try.prog 34 [cI n, cI m] (.pv (zF (Rat.divInt n m))) := by
  have n1 := qof_ok n m h hm h0
  generalize Rat.divInt n m = r at *
  refine ACalls.of_M TYok (qs := [zF r]) [.cell 4 31] 14 Try.func34 (by kernel_rfl) rfl rfl rfl fun G => ?_
  refine W.initA (hw := ?_)
  repeat' (first | ((first | apply U_); (first | exact QX.B TYok | exact QX.Ext TYok | exact QCd (n1)); exact rfl) | refine SX.Alloc TYok (h := ?_) | refine SX.Store TYok (h := ?_) | refine SC ?_ | (refine W.condA (ht := fun hb => ?_) (hf := fun hb => ?_) <;> (try simp at hb) <;> (try (exfalso; omega))))
  all_goals exact FinM.ret ResM.auto
theorem qwhole_ok (n : Int) (h : i64B n) : ACalls Try.prog 34 [cI n, cI 1] (.pv (zF (n : Rat))) := by
  rw [← divInt_one]
  exact qOf_ok n 1 h (by unfold i64B; omega) (by omega)
theorem fcmp_any (q : Fq) (hq : FqOk q) (b : Rat) (hb : okF b) : ∃ c, ACalls Try.prog 41 [fqV q, zF b] (.pv (cI c)) := by
  have lb := num_len hb.1
  have lb' := num_len hb.2
  by_cases h : q.right = true
  · obtain ⟨a, oa, rfl⟩ := Fq.rat h
    exact ⟨_, fcmp_ok a b oa hb⟩
  · exact ⟨0, fcmp_arg q.s q.s' _ _ q.d q.d' _ _ hq.1 hq.2 (by omega) (by omega) (fun k => h k.1)⟩
theorem rat1 : ((1 : Int) : Rat) = 1 := rfl
theorem pfac_ok (L : List Fq) (hL : L.length ≤ 9223372036854775807) (hq : ∀ q ∈ L, FqOk q) (b : Bool) (hbb : b = true ↔ FOk L) : ACalls Try.prog 16 [slF L] (.pv (cB b)) := by
  have w1 := whole_ok 1 (by unfold i64B; omega)
  rw [rat1] at w1
  refine ACalls.of_W (qs := [cB b]) [2] 38 Try.func16 (by kernel_rfl) rfl rfl rfl fun G => ?_
  refine W.initA (hw := ?_)
  repeat' (first | ((first | apply U_ | (apply Ug_; exact rfl; exact rfl) | (apply Ugq_; exact rfl; exact rfl)); (first | exact QX.B TYok | exact QX.Len TYok | exact QX.Idx TYok | exact QCd (w1)); exact rfl) | refine SX.Alloc TYok (h := ?_) | refine SX.Store TYok (h := ?_) | refine SC ?_ | refine SG ?_ | apply LexS.nil | (apply LexS.f; exact rfl; (first | (apply FreshV.alloc TYok; exact rfl; exact rfl; exact rfl; exact rfl) | (apply FreshV.lit TYok; (repeat (first | exact EvR.nil | apply EvR.cons Ev.auto)); exact rfl; exact rfl; exact rfl; exact rfl; exact rfl; exact rfl; exact rfl; exact rfl; exact rfl) | (apply FreshV.box; exact Ev.auto; exact rfl; exact rfl; exact rfl)); exact rfl; exact rfl; exact rfl) | (apply LexS.s; exact rfl; exact rfl; (apply StoreV.mk TYok; exact Ev.auto; exact Ev.auto; exact rfl; exact rfl; exact rfl; exact rfl; exact rfl)) | ((first | apply LexS.u | (apply LexS.g; exact rfl; exact rfl) | (apply LexS.gq; exact rfl; exact rfl)); (repeat (first | (apply NB.cons; exact rfl) | exact NB.nil rfl)); (first | exact QX.B TYok | exact QX.Len TYok | exact QX.Idx TYok | exact QCd (w1)); exact rfl; exact rfl; exact rfl) | (refine W.condA (ht := fun hb => ?_) (hf := fun hb => ?_) <;> (try simp at hb) <;> (try (exfalso; omega))))
  apply W.loopP (σ := Nat) 38 [0, 3, 7, 8] (fun k => k ≤ L.length ∧ ∀ j, j < k → chk L j) (fun k => [(9, vI k)]) (fun k => [(3, ⟨31, 4, [encQ (prv L k)]⟩)]) (fun k => L.length - k) (0)
  case hp => repeat (first | exact Pick.nil | apply Pick.cons rfl)
  case h0 =>
    refine ⟨⟨by omega, fun j hj => by omega⟩, ?_⟩
    rw [show prv L 0 = 1 from rfl]
    exact Le.auto
  case round =>
    rintro k ⟨g1, g2⟩
    apply W.norm (by repeat (first | exact App.nil | apply App.cons))
    by_cases hk : k < L.length
    · obtain ⟨op, p1⟩ := prv_ok g1 g2
      have hm := nth_mem hk
      have hqk := hq _ hm
      by_cases hr : (nth L k).right = true
      · obtain ⟨ov, ev⟩ := Fq.of_val hr
        have r1 := fright_ok (nth L k).s (nth L k).d (nth L k).s' (nth L k).d' hqk.1 hqk.2
        rw [show rightFB (nth L k).s (nth L k).d (nth L k).s' (nth L k).d' = true from hr] at r1
        have c1 := fcmp_ok (nth L k).val (prv L k) ov op
        rw [show zF (nth L k).val = fqV (nth L k) from (congrArg fqV ev).symm] at c1
        have hsg : (nth L k).s = sgn (nth L k).val.num := congrArg Fq.s ev
        have z1 := sgn_le (nth L k).val
        have z2 := cmpR_le (nth L k).val (prv L k)
        rw [← hsg] at z1
        have hps := prv_succ L k
        by_cases hc : chk L k
        · obtain ⟨_, c2, c3⟩ := hc
          have y1 : ¬ (nth L k).s ≤ 0 := fun q => by have := z1.1 q; grind
          have y2 : ¬ 0 < cmpR (nth L k).val (prv L k) := fun q => by have := z2.2 c3; omega
          generalize cmpR (nth L k).val (prv L k) = C at *
          have eL : encF (nth L k) = encQ (prv L (k + 1)) := by
            rw [hps]
            conv => lhs; rw [ev]
            rfl
          repeat' (first | ((first | apply U_ | (apply Ug_; exact rfl; exact rfl) | (apply Ugq_; exact rfl; exact rfl)); (first | exact QX.B TYok | exact QX.Len TYok | exact QX.Idx TYok | exact QCd (r1) | exact QCd (c1)); exact rfl) | refine SX.Alloc TYok (h := ?_) | refine SX.Store TYok (h := ?_) | refine SC ?_ | refine SG ?_ | apply LexS.nil | (apply LexS.f; exact rfl; (first | (apply FreshV.alloc TYok; exact rfl; exact rfl; exact rfl; exact rfl) | (apply FreshV.lit TYok; (repeat (first | exact EvR.nil | apply EvR.cons Ev.auto)); exact rfl; exact rfl; exact rfl; exact rfl; exact rfl; exact rfl; exact rfl; exact rfl; exact rfl) | (apply FreshV.box; exact Ev.auto; exact rfl; exact rfl; exact rfl)); exact rfl; exact rfl; exact rfl) | (apply LexS.s; exact rfl; exact rfl; (apply StoreV.mk TYok; exact Ev.auto; exact Ev.auto; exact rfl; exact rfl; exact rfl; exact rfl; exact rfl)) | ((first | apply LexS.u | (apply LexS.g; exact rfl; exact rfl) | (apply LexS.gq; exact rfl; exact rfl)); (repeat (first | (apply NB.cons; exact rfl) | exact NB.nil rfl)); (first | exact QX.B TYok | exact QX.Len TYok | exact QX.Idx TYok | exact QCd (r1) | exact QCd (c1)); exact rfl; exact rfl; exact rfl) | (refine W.condA (ht := fun hb => ?_) (hf := fun hb => ?_) <;> (try simp at hb) <;> (try (exfalso; omega))))
          all_goals first
            | (refine ⟨k + 1, ⟨by omega, fun j hj => ?_⟩, ?_, by omega⟩
               · rcases Nat.lt_or_ge j k with q | q
                 · exact g2 j q
                 · obtain rfl : j = k := by omega
                   exact ⟨hr, c2, c3⟩
               · (try dsimp only)
                 rw [← eL]
                 exact Le.auto)
            | (exfalso; omega)
            | trace_state
        · have hbf : b = false := by
            rw [Bool.eq_false_iff]
            exact fun q => hc ((hbb.1 q).1 k hk)
          subst hbf
          have y : ¬ (nth L k).s ≤ 0 → 0 < cmpR (nth L k).val (prv L k) := fun q => by
            rcases Int.lt_or_le 0 (cmpR (nth L k).val (prv L k)) with w | w
            · exact w
            · exact absurd ⟨hr, by have := fun t => q (z1.2 t); grind, z2.1 w⟩ hc
          generalize cmpR (nth L k).val (prv L k) = C at *
          repeat' (first | ((first | apply U_ | (apply Ug_; exact rfl; exact rfl) | (apply Ugq_; exact rfl; exact rfl)); (first | exact QX.B TYok | exact QX.Len TYok | exact QX.Idx TYok | exact QCd (r1) | exact QCd (c1)); exact rfl) | refine SX.Alloc TYok (h := ?_) | refine SX.Store TYok (h := ?_) | refine SC ?_ | refine SG ?_ | apply LexS.nil | (apply LexS.f; exact rfl; (first | (apply FreshV.alloc TYok; exact rfl; exact rfl; exact rfl; exact rfl) | (apply FreshV.lit TYok; (repeat (first | exact EvR.nil | apply EvR.cons Ev.auto)); exact rfl; exact rfl; exact rfl; exact rfl; exact rfl; exact rfl; exact rfl; exact rfl; exact rfl) | (apply FreshV.box; exact Ev.auto; exact rfl; exact rfl; exact rfl)); exact rfl; exact rfl; exact rfl) | (apply LexS.s; exact rfl; exact rfl; (apply StoreV.mk TYok; exact Ev.auto; exact Ev.auto; exact rfl; exact rfl; exact rfl; exact rfl; exact rfl)) | ((first | apply LexS.u | (apply LexS.g; exact rfl; exact rfl) | (apply LexS.gq; exact rfl; exact rfl)); (repeat (first | (apply NB.cons; exact rfl) | exact NB.nil rfl)); (first | exact QX.B TYok | exact QX.Len TYok | exact QX.Idx TYok | exact QCd (r1) | exact QCd (c1)); exact rfl; exact rfl; exact rfl) | (refine W.condA (ht := fun hb => ?_) (hf := fun hb => ?_) <;> (try simp at hb) <;> (try (exfalso; omega))))
          all_goals first
            | exact Fin.ret ResL.auto
            | (exfalso; omega)
            | trace_state
      · have hbf : b = false := by
          rw [Bool.eq_false_iff]
          exact fun q => hr ((hbb.1 q).1 k hk).1
        subst hbf
        have r1 := fright_ok (nth L k).s (nth L k).d (nth L k).s' (nth L k).d' hqk.1 hqk.2
        rw [show rightFB (nth L k).s (nth L k).d (nth L k).s' (nth L k).d' = false from by rw [Bool.eq_false_iff]; exact hr] at r1
        obtain ⟨c, c1⟩ := fcmp_any (nth L k) hqk (prv L k) op
        repeat' (first | ((first | apply U_ | (apply Ug_; exact rfl; exact rfl) | (apply Ugq_; exact rfl; exact rfl)); (first | exact QX.B TYok | exact QX.Len TYok | exact QX.Idx TYok | exact QCd (r1) | exact QCd (c1)); exact rfl) | refine SX.Alloc TYok (h := ?_) | refine SX.Store TYok (h := ?_) | refine SC ?_ | refine SG ?_ | apply LexS.nil | (apply LexS.f; exact rfl; (first | (apply FreshV.alloc TYok; exact rfl; exact rfl; exact rfl; exact rfl) | (apply FreshV.lit TYok; (repeat (first | exact EvR.nil | apply EvR.cons Ev.auto)); exact rfl; exact rfl; exact rfl; exact rfl; exact rfl; exact rfl; exact rfl; exact rfl; exact rfl) | (apply FreshV.box; exact Ev.auto; exact rfl; exact rfl; exact rfl)); exact rfl; exact rfl; exact rfl) | (apply LexS.s; exact rfl; exact rfl; (apply StoreV.mk TYok; exact Ev.auto; exact Ev.auto; exact rfl; exact rfl; exact rfl; exact rfl; exact rfl)) | ((first | apply LexS.u | (apply LexS.g; exact rfl; exact rfl) | (apply LexS.gq; exact rfl; exact rfl)); (repeat (first | (apply NB.cons; exact rfl) | exact NB.nil rfl)); (first | exact QX.B TYok | exact QX.Len TYok | exact QX.Idx TYok | exact QCd (r1) | exact QCd (c1)); exact rfl; exact rfl; exact rfl) | (refine W.condA (ht := fun hb => ?_) (hf := fun hb => ?_) <;> (try simp at hb) <;> (try (exfalso; omega))))
        all_goals first
          | exact Fin.ret ResL.auto
          | (exfalso; omega)
          | trace_state
    · obtain rfl : k = L.length := by omega
      have hb2 := FOk_iff g2
      rw [hb2] at hbb
      repeat' (first | ((first | apply U_ | (apply Ug_; exact rfl; exact rfl) | (apply Ugq_; exact rfl; exact rfl)); (first | exact QX.B TYok | exact QX.Len TYok | exact QX.Idx TYok); exact rfl) | refine SX.Alloc TYok (h := ?_) | refine SX.Store TYok (h := ?_) | refine SC ?_ | refine SG ?_ | apply LexS.nil | (apply LexS.f; exact rfl; (first | (apply FreshV.alloc TYok; exact rfl; exact rfl; exact rfl; exact rfl) | (apply FreshV.lit TYok; (repeat (first | exact EvR.nil | apply EvR.cons Ev.auto)); exact rfl; exact rfl; exact rfl; exact rfl; exact rfl; exact rfl; exact rfl; exact rfl; exact rfl) | (apply FreshV.box; exact Ev.auto; exact rfl; exact rfl; exact rfl)); exact rfl; exact rfl; exact rfl) | (apply LexS.s; exact rfl; exact rfl; (apply StoreV.mk TYok; exact Ev.auto; exact Ev.auto; exact rfl; exact rfl; exact rfl; exact rfl; exact rfl)) | ((first | apply LexS.u | (apply LexS.g; exact rfl; exact rfl) | (apply LexS.gq; exact rfl; exact rfl)); (repeat (first | (apply NB.cons; exact rfl) | exact NB.nil rfl)); (first | exact QX.B TYok | exact QX.Len TYok | exact QX.Idx TYok); exact rfl; exact rfl; exact rfl) | (refine W.condA (ht := fun hb => ?_) (hf := fun hb => ?_) <;> (try simp at hb) <;> (try (exfalso; omega))))
      all_goals first
        | (refine Fin.ret (ResL.cons rfl rfl (PSub.of_eq ?_) ResL.nil)
           refine congrArg (fun b => PV.one (Cell.bool b)) ?_
           rw [Bool.eq_iff_iff, hbb]
           simp only [Bool.and_eq_true, decide_eq_true_iff]
           omega)
        | trace_state
theorem rfac_ok (L : List Fq) (hL : L.length ≤ 9223372036854775807) (hq : ∀ q ∈ L, FqOk q) (b : Bool) (hbb : b = true ↔ FOk L) : ACalls Try.prog 17 [slF L] (.pv (cB b)) := by
  by_cases hlen : 1 ≤ (L.length : Int) ∧ (L.length : Int) ≤ 60
  case neg =>
    have e : b = false := by
      rw [Bool.eq_false_iff]
      exact fun q => hlen (by have := (hbb.1 q).2; omega)
    subst e
    refine ACalls.of_W (qs := [cB false]) [2] 56 Try.func17 (by kernel_rfl) rfl rfl rfl fun G => ?_
    refine W.initA (hw := ?_)
    repeat' (first | ((first | apply U_ | (apply Ug_; exact rfl; exact rfl) | (apply Ugq_; exact rfl; exact rfl) | apply Lex.u | (apply Lex.g; exact rfl; exact rfl) | (apply Lex.gq; exact rfl; exact rfl)); (first | exact QX.B TYok | exact QX.Num TYok | exact QX.Len TYok | exact QX.Idx TYok); exact rfl) | refine SC ?_ | refine SG ?_ | (apply W.draw2 (id := 8) [0, 0, 3, 7, 15, 31, 63, 127, 255, 255, 1023, 2047, 255, 8191, 16383, 32767] [[0], [3], [24, 25], [26], [27], [28], [29], [30], [0, 31], [3, 31], [32, 33, 31], [34, 31], [31], [35, 36, 31], [37, 31], [31, 38]] 16 [(24, 1), (25, 8), (26, 50331648), (27, 67108864), (28, 134217728), (29, 268435456), (30, 536870912), (31, 1073741824), (32, 2147483649), (33, 2147483656), (34, 15032385536), (35, 19327352832), (36, 2147483648), (37, 105226698752), (38, 139586437120), (39, 277025390592)] mixed (by kernel_rfl) rfl rfl) | (apply W.draw2 (id := 10) [0, 1, 3, 7, 7, 23, 55, 127, 255, 7, 7, 1543, 3591, 8191, 16383, 32767] [[3], [40], [41], [0, 42], [3, 42], [44, 42], [45, 42], [43, 46, 42], [47, 42], [0, 42], [3, 42], [49, 50, 42], [51, 42], [48, 52, 42], [53, 42], [42, 54]] 16 [(40, 8), (41, 1099511627776), (42, 2199023255552), (43, 4398046511105), (44, 4398046511112), (45, 21990232555520), (46, 39582418599936), (47, 83562883710976), (48, 145135534866432), (49, 4398046511105), (50, 4398046511112), (51, 1693247906775040), (52, 2256197860196352), (53, 4789472650592256), (54, 9011597301252096), (55, 18018796555993088)] mixed (by kernel_rfl) rfl rfl) | (refine W.condA (ht := fun hb => ?_) (hf := fun hb => ?_) <;> (try simp at hb) <;> (try (exfalso; first | exact hlen hb | omega))))
    all_goals first
      | exact Fin.ret ResL.auto
      | (exfalso; omega)
      | trace_state
  have w1 := qwhole_ok 1 (by unfold i64B; omega)
  rw [rat1] at w1
  have o1 : okF 1 := okF_int (n := 1) (by unfold i64B; omega)
  refine ACalls.of_W (qs := [cB b]) [2] 56 Try.func17 (by kernel_rfl) rfl rfl rfl fun G => ?_
  refine W.initA (hw := ?_)
  repeat' (first | (exfalso; omega) | ((first | apply U_ | (apply Ug_; exact rfl; exact rfl) | (apply Ugq_; exact rfl; exact rfl) | apply Lex.u | (apply Lex.g; exact rfl; exact rfl) | (apply Lex.gq; exact rfl; exact rfl)); (first | exact QX.B TYok | exact QX.Num TYok | exact QX.Len TYok | exact QX.Idx TYok); exact rfl) | refine SC ?_ | refine SG ?_ | (apply W.draw2 (id := 8) [0, 0, 3, 7, 15, 31, 63, 127, 255, 255, 1023, 2047, 255, 8191, 16383, 32767] [[0], [3], [24, 25], [26], [27], [28], [29], [30], [0, 31], [3, 31], [32, 33, 31], [34, 31], [31], [35, 36, 31], [37, 31], [31, 38]] 16 [(24, 1), (25, 8), (26, 50331648), (27, 67108864), (28, 134217728), (29, 268435456), (30, 536870912), (31, 1073741824), (32, 2147483649), (33, 2147483656), (34, 15032385536), (35, 19327352832), (36, 2147483648), (37, 105226698752), (38, 139586437120), (39, 277025390592)] mixed (by kernel_rfl) rfl rfl) | (apply W.draw2 (id := 10) [0, 1, 3, 7, 7, 23, 55, 127, 255, 7, 7, 1543, 3591, 8191, 16383, 32767] [[3], [40], [41], [0, 42], [3, 42], [44, 42], [45, 42], [43, 46, 42], [47, 42], [0, 42], [3, 42], [49, 50, 42], [51, 42], [48, 52, 42], [53, 42], [42, 54]] 16 [(40, 8), (41, 1099511627776), (42, 2199023255552), (43, 4398046511105), (44, 4398046511112), (45, 21990232555520), (46, 39582418599936), (47, 83562883710976), (48, 145135534866432), (49, 4398046511105), (50, 4398046511112), (51, 1693247906775040), (52, 2256197860196352), (53, 4789472650592256), (54, 9011597301252096), (55, 18018796555993088)] mixed (by kernel_rfl) rfl rfl) | (refine W.condA (ht := fun hb => ?_) (hf := fun hb => ?_) <;> (try simp at hb) <;> (try (exfalso; omega))))
  apply W.loopP (σ := Nat) 56 [0] (fun k => k ≤ L.length ∧ ∀ j, j < k → chk L j) (fun k => [(3, vI k)]) (fun _ => []) (fun k => L.length - k) (0)
  case hp => repeat (first | exact Pick.nil | apply Pick.cons rfl)
  case h0 =>
    refine ⟨⟨by omega, fun j hj => by omega⟩, ?_⟩
    exact Le.auto
  case round =>
    rintro k ⟨g1, g2⟩
    apply W.norm (by repeat (first | exact App.nil | apply App.cons))
    by_cases hk : k < L.length
    case neg =>
      obtain rfl : k = L.length := by omega
      obtain rfl : b = true := hbb.2 ((FOk_iff g2).2 (by omega))
      repeat' (first | ((first | apply U_ | (apply Ug_; exact rfl; exact rfl) | (apply Ugq_; exact rfl; exact rfl) | apply Lex.u | (apply Lex.g; exact rfl; exact rfl) | (apply Lex.gq; exact rfl; exact rfl)); (first | exact QX.B TYok | exact QX.Num TYok | exact QX.Len TYok | exact QX.Idx TYok); exact rfl) | refine SC ?_ | refine SG ?_ | (apply W.draw2 (id := 8) [0, 0, 3, 7, 15, 31, 63, 127, 255, 255, 1023, 2047, 255, 8191, 16383, 32767] [[0], [3], [24, 25], [26], [27], [28], [29], [30], [0, 31], [3, 31], [32, 33, 31], [34, 31], [31], [35, 36, 31], [37, 31], [31, 38]] 16 [(24, 1), (25, 8), (26, 50331648), (27, 67108864), (28, 134217728), (29, 268435456), (30, 536870912), (31, 1073741824), (32, 2147483649), (33, 2147483656), (34, 15032385536), (35, 19327352832), (36, 2147483648), (37, 105226698752), (38, 139586437120), (39, 277025390592)] mixed (by kernel_rfl) rfl rfl) | (apply W.draw2 (id := 10) [0, 1, 3, 7, 7, 23, 55, 127, 255, 7, 7, 1543, 3591, 8191, 16383, 32767] [[3], [40], [41], [0, 42], [3, 42], [44, 42], [45, 42], [43, 46, 42], [47, 42], [0, 42], [3, 42], [49, 50, 42], [51, 42], [48, 52, 42], [53, 42], [42, 54]] 16 [(40, 8), (41, 1099511627776), (42, 2199023255552), (43, 4398046511105), (44, 4398046511112), (45, 21990232555520), (46, 39582418599936), (47, 83562883710976), (48, 145135534866432), (49, 4398046511105), (50, 4398046511112), (51, 1693247906775040), (52, 2256197860196352), (53, 4789472650592256), (54, 9011597301252096), (55, 18018796555993088)] mixed (by kernel_rfl) rfl rfl) | (refine W.condA (ht := fun hb => ?_) (hf := fun hb => ?_) <;> (try simp at hb) <;> (try (exfalso; omega))))
      all_goals first
        | exact Fin.ret ResL.auto
        | trace_state
    have hLn : L = [] → False := fun e => by rw [e] at hk; simp at hk
    obtain ⟨op, p1⟩ := prv_ok g1 g2
    have hm := nth_mem hk
    have hqk := hq _ hm
    have r1 := qright_ok (nth L k).s (nth L k).d (nth L k).s' (nth L k).d' hqk.1 hqk.2
    by_cases hr : (nth L k).right = true
    case neg =>
      have hbf : b = false := by
        rw [Bool.eq_false_iff]
        exact fun q => hr ((hbb.1 q).1 k hk).1
      subst hbf
      rw [show rightFB (nth L k).s (nth L k).d (nth L k).s' (nth L k).d' = false from by rw [Bool.eq_false_iff]; exact hr] at r1
      repeat' (first | ((first | apply U_ | (apply Ug_; exact rfl; exact rfl) | (apply Ugq_; exact rfl; exact rfl) | apply Lex.u | (apply Lex.g; exact rfl; exact rfl) | (apply Lex.gq; exact rfl; exact rfl)); (first | exact QX.B TYok | exact QX.Num TYok | exact QX.Len TYok | exact QX.Idx TYok | exact QCd (r1)); exact rfl) | refine SC ?_ | refine SG ?_ | (apply W.draw2 (id := 8) [0, 0, 3, 7, 15, 31, 63, 127, 255, 255, 1023, 2047, 255, 8191, 16383, 32767] [[0], [3], [24, 25], [26], [27], [28], [29], [30], [0, 31], [3, 31], [32, 33, 31], [34, 31], [31], [35, 36, 31], [37, 31], [31, 38]] 16 [(24, 1), (25, 8), (26, 50331648), (27, 67108864), (28, 134217728), (29, 268435456), (30, 536870912), (31, 1073741824), (32, 2147483649), (33, 2147483656), (34, 15032385536), (35, 19327352832), (36, 2147483648), (37, 105226698752), (38, 139586437120), (39, 277025390592)] mixed (by kernel_rfl) rfl rfl) | (apply W.draw2 (id := 10) [0, 1, 3, 7, 7, 23, 55, 127, 255, 7, 7, 1543, 3591, 8191, 16383, 32767] [[3], [40], [41], [0, 42], [3, 42], [44, 42], [45, 42], [43, 46, 42], [47, 42], [0, 42], [3, 42], [49, 50, 42], [51, 42], [48, 52, 42], [53, 42], [42, 54]] 16 [(40, 8), (41, 1099511627776), (42, 2199023255552), (43, 4398046511105), (44, 4398046511112), (45, 21990232555520), (46, 39582418599936), (47, 83562883710976), (48, 145135534866432), (49, 4398046511105), (50, 4398046511112), (51, 1693247906775040), (52, 2256197860196352), (53, 4789472650592256), (54, 9011597301252096), (55, 18018796555993088)] mixed (by kernel_rfl) rfl rfl) | (refine W.condA (ht := fun hb => ?_) (hf := fun hb => ?_) <;> (try simp at hb) <;> (try (exfalso; omega))))
      all_goals first
        | exact Fin.ret ResL.auto
        | (exfalso; omega)
        | trace_state
    rw [show rightFB (nth L k).s (nth L k).d (nth L k).s' (nth L k).d' = true from hr] at r1
    obtain ⟨ov, ev⟩ := Fq.of_val hr
    have c1 := qcmp_ok (nth L k).val 1 ov o1
    rw [show zF (nth L k).val = fqV (nth L k) from (congrArg fqV ev).symm] at c1
    have hsg : (nth L k).s = sgn (nth L k).val.num := congrArg Fq.s ev
    have z1 := sgn_le (nth L k).val
    have z2 := cmpR_le (nth L k).val 1
    rw [← hsg] at z1
    by_cases h0 : k = 0
    · subst h0
      have c2 := qcmp_ok (nth L 0).val (nth L 0).val ov ov
      rw [show zF (nth L 0).val = fqV (nth L 0) from (congrArg fqV ev).symm] at c2
      have hch : chk L 0 ↔ (¬ (nth L 0).s ≤ 0 ∧ ¬ 0 < cmpR (nth L 0).val 1) := by
        unfold chk
        rw [show prv L 0 = 1 from rfl]
        constructor
        · rintro ⟨_, a, b⟩
          exact ⟨fun q => by have := z1.1 q; grind, fun q => by have := z2.2 b; omega⟩
        · rintro ⟨a, b⟩
          exact ⟨hr, by have := fun t => a (z1.2 t); grind, z2.1 (by omega)⟩
      generalize cmpR (nth L 0).val 1 = C at *
      generalize cmpR (nth L 0).val (nth L 0).val = C2 at *
      by_cases hc : chk L 0
      · obtain ⟨y1, y2⟩ := hch.1 hc
        repeat' (first | ((first | apply U_ | (apply Ug_; exact rfl; exact rfl) | (apply Ugq_; exact rfl; exact rfl) | apply Lex.u | (apply Lex.g; exact rfl; exact rfl) | (apply Lex.gq; exact rfl; exact rfl)); (first | (apply Q_indexd TYok; exact Ev.auto; exact Ev.auto; exact rfl; exact rfl; exact rfl; (intro hg; exact getRowI (by omega)); exact rfl) | exact QX.B TYok | exact QX.Num TYok | exact QX.Len TYok | exact QX.Idx TYok | exact QCd (r1) | exact QCd (w1) | exact QCd (c1) | exact QCd (c2)); exact rfl) | refine SC ?_ | refine SG ?_ | (apply W.draw2 (id := 8) [0, 0, 3, 7, 15, 31, 63, 127, 255, 255, 1023, 2047, 255, 8191, 16383, 32767] [[0], [3], [24, 25], [26], [27], [28], [29], [30], [0, 31], [3, 31], [32, 33, 31], [34, 31], [31], [35, 36, 31], [37, 31], [31, 38]] 16 [(24, 1), (25, 8), (26, 50331648), (27, 67108864), (28, 134217728), (29, 268435456), (30, 536870912), (31, 1073741824), (32, 2147483649), (33, 2147483656), (34, 15032385536), (35, 19327352832), (36, 2147483648), (37, 105226698752), (38, 139586437120), (39, 277025390592)] mixed (by kernel_rfl) rfl rfl) | (apply W.draw2 (id := 10) [0, 1, 3, 7, 7, 23, 55, 127, 255, 7, 7, 1543, 3591, 8191, 16383, 32767] [[3], [40], [41], [0, 42], [3, 42], [44, 42], [45, 42], [43, 46, 42], [47, 42], [0, 42], [3, 42], [49, 50, 42], [51, 42], [48, 52, 42], [53, 42], [42, 54]] 16 [(40, 8), (41, 1099511627776), (42, 2199023255552), (43, 4398046511105), (44, 4398046511112), (45, 21990232555520), (46, 39582418599936), (47, 83562883710976), (48, 145135534866432), (49, 4398046511105), (50, 4398046511112), (51, 1693247906775040), (52, 2256197860196352), (53, 4789472650592256), (54, 9011597301252096), (55, 18018796555993088)] mixed (by kernel_rfl) rfl rfl) | (refine W.condA (ht := fun hb => ?_) (hf := fun hb => ?_) <;> (try simp at hb) <;> (try (exfalso; first | exact hLn hb | omega))))
        all_goals first
          | (refine ⟨0 + 1, ⟨by omega, fun j hj => ?_⟩, ?_, by omega⟩
             · obtain rfl : j = 0 := by omega
               exact hc
             · exact Le.auto)
          | (exfalso; omega)
          | trace_state
      · have hbf : b = false := by
          rw [Bool.eq_false_iff]
          exact fun q => hc ((hbb.1 q).1 0 hk)
        subst hbf
        have y : ¬ (¬ (nth L 0).s ≤ 0 ∧ ¬ 0 < C) := fun q => hc (hch.2 q)
        repeat' (first | ((first | apply U_ | (apply Ug_; exact rfl; exact rfl) | (apply Ugq_; exact rfl; exact rfl) | apply Lex.u | (apply Lex.g; exact rfl; exact rfl) | (apply Lex.gq; exact rfl; exact rfl)); (first | (apply Q_indexd TYok; exact Ev.auto; exact Ev.auto; exact rfl; exact rfl; exact rfl; (intro hg; exact getRowI (by omega)); exact rfl) | exact QX.B TYok | exact QX.Num TYok | exact QX.Len TYok | exact QX.Idx TYok | exact QCd (r1) | exact QCd (w1) | exact QCd (c1) | exact QCd (c2)); exact rfl) | refine SC ?_ | refine SG ?_ | (apply W.draw2 (id := 8) [0, 0, 3, 7, 15, 31, 63, 127, 255, 255, 1023, 2047, 255, 8191, 16383, 32767] [[0], [3], [24, 25], [26], [27], [28], [29], [30], [0, 31], [3, 31], [32, 33, 31], [34, 31], [31], [35, 36, 31], [37, 31], [31, 38]] 16 [(24, 1), (25, 8), (26, 50331648), (27, 67108864), (28, 134217728), (29, 268435456), (30, 536870912), (31, 1073741824), (32, 2147483649), (33, 2147483656), (34, 15032385536), (35, 19327352832), (36, 2147483648), (37, 105226698752), (38, 139586437120), (39, 277025390592)] mixed (by kernel_rfl) rfl rfl) | (apply W.draw2 (id := 10) [0, 1, 3, 7, 7, 23, 55, 127, 255, 7, 7, 1543, 3591, 8191, 16383, 32767] [[3], [40], [41], [0, 42], [3, 42], [44, 42], [45, 42], [43, 46, 42], [47, 42], [0, 42], [3, 42], [49, 50, 42], [51, 42], [48, 52, 42], [53, 42], [42, 54]] 16 [(40, 8), (41, 1099511627776), (42, 2199023255552), (43, 4398046511105), (44, 4398046511112), (45, 21990232555520), (46, 39582418599936), (47, 83562883710976), (48, 145135534866432), (49, 4398046511105), (50, 4398046511112), (51, 1693247906775040), (52, 2256197860196352), (53, 4789472650592256), (54, 9011597301252096), (55, 18018796555993088)] mixed (by kernel_rfl) rfl rfl) | (refine W.condA (ht := fun hb => ?_) (hf := fun hb => ?_) <;> (try simp at hb) <;> (try (exfalso; first | exact hLn hb | omega))))
        all_goals first
          | exact Fin.ret ResL.auto
          | (exfalso; omega)
          | trace_state
    · obtain ⟨i, rfl⟩ : ∃ i, k = i + 1 := ⟨k - 1, by omega⟩
      have hci := g2 i (by omega)
      obtain ⟨ovi, evi⟩ := Fq.of_val hci.1
      have c2 := qcmp_ok (nth L i).val (nth L (i + 1)).val ovi ov
      rw [show zF (nth L i).val = fqV (nth L i) from (congrArg fqV evi).symm, show zF (nth L (i + 1)).val = fqV (nth L (i + 1)) from (congrArg fqV ev).symm] at c2
      have z3 := cmpR_lt (nth L i).val (nth L (i + 1)).val
      rw [prv_succ] at op p1
      have hch : chk L (i + 1) ↔ (¬ (nth L (i + 1)).s ≤ 0 ∧ ¬ cmpR (nth L i).val (nth L (i + 1)).val < 0) := by
        unfold chk
        rw [prv_succ]
        constructor
        · rintro ⟨_, a, b⟩
          exact ⟨fun q => by have := z1.1 q; grind, fun q => by have := z3.1 q; grind⟩
        · rintro ⟨a, b⟩
          exact ⟨hr, by have := fun t => a (z1.2 t); grind, by have := fun t => b (z3.2 t); grind⟩
      have hgt : 0 < cmpR (nth L (i + 1)).val 1 → cmpR (nth L i).val (nth L (i + 1)).val < 0 := fun q => z3.2 (by
        by_cases w : (nth L (i + 1)).val ≤ 1
        · have := z2.2 w; omega
        · grind)
      generalize cmpR (nth L (i + 1)).val 1 = C at *
      generalize cmpR (nth L i).val (nth L (i + 1)).val = C2 at *
      by_cases hc : chk L (i + 1)
      · obtain ⟨y1, y2⟩ := hch.1 hc
        repeat' (first | ((first | apply U_ | (apply Ug_; exact rfl; exact rfl) | (apply Ugq_; exact rfl; exact rfl) | apply Lex.u | (apply Lex.g; exact rfl; exact rfl) | (apply Lex.gq; exact rfl; exact rfl)); (first | (apply Q_indexd TYok; exact Ev.auto; exact Ev.auto; exact rfl; exact rfl; exact rfl; (intro hg; rw [show max ((((i + 1 : Nat)) : Int) - 1) 0 = (i : Int) by omega]; exact getRowN (by omega)); exact rfl) | exact QX.B TYok | exact QX.Num TYok | exact QX.Len TYok | exact QX.Idx TYok | exact QCd (r1) | exact QCd (w1) | exact QCd (c1) | exact QCd (c2)); exact rfl) | refine SC ?_ | refine SG ?_ | (apply W.draw2 (id := 8) [0, 0, 3, 7, 15, 31, 63, 127, 255, 255, 1023, 2047, 255, 8191, 16383, 32767] [[0], [3], [24, 25], [26], [27], [28], [29], [30], [0, 31], [3, 31], [32, 33, 31], [34, 31], [31], [35, 36, 31], [37, 31], [31, 38]] 16 [(24, 1), (25, 8), (26, 50331648), (27, 67108864), (28, 134217728), (29, 268435456), (30, 536870912), (31, 1073741824), (32, 2147483649), (33, 2147483656), (34, 15032385536), (35, 19327352832), (36, 2147483648), (37, 105226698752), (38, 139586437120), (39, 277025390592)] mixed (by kernel_rfl) rfl rfl) | (apply W.draw2 (id := 10) [0, 1, 3, 7, 7, 23, 55, 127, 255, 7, 7, 1543, 3591, 8191, 16383, 32767] [[3], [40], [41], [0, 42], [3, 42], [44, 42], [45, 42], [43, 46, 42], [47, 42], [0, 42], [3, 42], [49, 50, 42], [51, 42], [48, 52, 42], [53, 42], [42, 54]] 16 [(40, 8), (41, 1099511627776), (42, 2199023255552), (43, 4398046511105), (44, 4398046511112), (45, 21990232555520), (46, 39582418599936), (47, 83562883710976), (48, 145135534866432), (49, 4398046511105), (50, 4398046511112), (51, 1693247906775040), (52, 2256197860196352), (53, 4789472650592256), (54, 9011597301252096), (55, 18018796555993088)] mixed (by kernel_rfl) rfl rfl) | (refine W.condA (ht := fun hb => ?_) (hf := fun hb => ?_) <;> (try simp at hb) <;> (try (exfalso; first | exact hLn hb | omega))))
        all_goals first
          | (refine ⟨i + 1 + 1, ⟨by omega, fun j hj => ?_⟩, ?_, by omega⟩
             · rcases Nat.lt_or_ge j (i + 1) with q | q
               · exact g2 j q
               · obtain rfl : j = i + 1 := by omega
                 exact hc
             · exact Le.auto)
          | (exfalso; omega)
          | trace_state
      · have hbf : b = false := by
          rw [Bool.eq_false_iff]
          exact fun q => hc ((hbb.1 q).1 (i + 1) hk)
        subst hbf
        have y : ¬ (¬ (nth L (i + 1)).s ≤ 0 ∧ ¬ C2 < 0) := fun q => hc (hch.2 q)
        repeat' (first | ((first | apply U_ | (apply Ug_; exact rfl; exact rfl) | (apply Ugq_; exact rfl; exact rfl) | apply Lex.u | (apply Lex.g; exact rfl; exact rfl) | (apply Lex.gq; exact rfl; exact rfl)); (first | (apply Q_indexd TYok; exact Ev.auto; exact Ev.auto; exact rfl; exact rfl; exact rfl; (intro hg; rw [show max ((((i + 1 : Nat)) : Int) - 1) 0 = (i : Int) by omega]; exact getRowN (by omega)); exact rfl) | exact QX.B TYok | exact QX.Num TYok | exact QX.Len TYok | exact QX.Idx TYok | exact QCd (r1) | exact QCd (w1) | exact QCd (c1) | exact QCd (c2)); exact rfl) | refine SC ?_ | refine SG ?_ | (apply W.draw2 (id := 8) [0, 0, 3, 7, 15, 31, 63, 127, 255, 255, 1023, 2047, 255, 8191, 16383, 32767] [[0], [3], [24, 25], [26], [27], [28], [29], [30], [0, 31], [3, 31], [32, 33, 31], [34, 31], [31], [35, 36, 31], [37, 31], [31, 38]] 16 [(24, 1), (25, 8), (26, 50331648), (27, 67108864), (28, 134217728), (29, 268435456), (30, 536870912), (31, 1073741824), (32, 2147483649), (33, 2147483656), (34, 15032385536), (35, 19327352832), (36, 2147483648), (37, 105226698752), (38, 139586437120), (39, 277025390592)] mixed (by kernel_rfl) rfl rfl) | (apply W.draw2 (id := 10) [0, 1, 3, 7, 7, 23, 55, 127, 255, 7, 7, 1543, 3591, 8191, 16383, 32767] [[3], [40], [41], [0, 42], [3, 42], [44, 42], [45, 42], [43, 46, 42], [47, 42], [0, 42], [3, 42], [49, 50, 42], [51, 42], [48, 52, 42], [53, 42], [42, 54]] 16 [(40, 8), (41, 1099511627776), (42, 2199023255552), (43, 4398046511105), (44, 4398046511112), (45, 21990232555520), (46, 39582418599936), (47, 83562883710976), (48, 145135534866432), (49, 4398046511105), (50, 4398046511112), (51, 1693247906775040), (52, 2256197860196352), (53, 4789472650592256), (54, 9011597301252096), (55, 18018796555993088)] mixed (by kernel_rfl) rfl rfl) | (refine W.condA (ht := fun hb => ?_) (hf := fun hb => ?_) <;> (try simp at hb) <;> (try (exfalso; first | exact hLn hb | omega))))
        all_goals first
          | exact Fin.ret ResL.auto
          | (exfalso; omega)
          | trace_state
end
end Go.Proofs.Ytgpcmgjdkefdjaa
end
section
set_option linter.unusedVariables false
set_option linter.unusedSimpArgs false
set_option maxHeartbeats 8000000
namespace Go.Proofs.Ytgpcmgjdkefdjaa
open Lf Go
attribute [local irreducible] PureOp EffOp Ev RG W Then InBlock Lf.Fin nth App InitE Pick EvL EvD EvP EvR ResL Lf.Lex SubR SubBR RA RAll EvC FinO FinM ResM ResD FinS val pw digs trimL
section
/-- the factors have few digits -/
def fewF (L : List Fq) : Prop := ∀ q ∈ L, q.d.length ≤ 6 ∧ q.d'.length ≤ 6
theorem fac_bd {L : List Fq} (h : FOk L) (hf : fewF L) {k : Nat} (hk : k < L.length) : bd (nth L k).val 6 := by
  obtain ⟨o, e⟩ := Fq.of_val (h.1 k hk).1
  have := hf _ (nth_mem hk)
  have h1 : (nth L k).d = digs (mag (nth L k).val.num) := congrArg Fq.d e
  have h2 : (nth L k).d' = digs (mag (nth L k).val.den) := congrArg Fq.d' e
  rw [h1, h2] at this
  exact bd_of this.1 this.2
def yrI (d : Int) (f : Fl) : Int := (f.day - d) / 365
def term (L : List Fq) (d : Int) (f : Fl) : Rat := (f.amt : Rat) * (nth L (yrI d f).toNat).val
def vsum (L : List Fq) (d : Int) (l : List Fl) : Nat → Rat
  | 0 => 0
  | k + 1 => vsum L d l k + term L d (nth l k)
structure VIn (l : List Fl) (d : Int) (L : List Fq) : Prop where
  fl : flowsB l d = true
  fk : FOk L
  fw : fewF L
  early : ∀ f ∈ l, d ≤ f.day
  late : ∀ f ∈ l, yrI d f < L.length
theorem VIn.term_bd {l : List Fl} {d : Int} {L : List Fq} (h : VIn l d L) {k : Nat} (hk : k < l.length) : (0 ≤ yrI d (nth l k) ∧ yrI d (nth l k) < L.length) ∧ bd (term L d (nth l k)) 10 ∧ mulOk ((nth l k).amt : Rat) (nth L (yrI d (nth l k)).toNat).val := by
  have hm := nth_mem hk
  have h1 := (flowsB_yes h.fl).2 _ hm
  have h2 := h.early _ hm
  have h3 := h.late _ hm
  have h4 : 0 ≤ yrI d (nth l k) := by unfold yrI; omega
  have b1 := fac_bd h.fk h.fw (k := (yrI d (nth l k)).toNat) (by omega)
  have m := mul_bd (k := 10) (by omega) (int_bd (n := (nth l k).amt) (by omega)) b1 (by omega)
  exact ⟨⟨h4, h3⟩, m.1, m.2⟩
theorem vsum_ok {l : List Fl} {d : Int} {L : List Fq} (h : VIn l d L) {n : Nat} (hn : n ≤ l.length) (hu : ∀ j, j < n → addOk (vsum L d l j) (term L d (nth l j))) : ∀ j, j ≤ n → okF (vsum L d l j)
  | 0, _ => okF_int (n := 0) (by unfold i64B; omega)
  | j + 1, hj => addOk_okF (hu j (by omega))
attribute [local irreducible] sgn mag gcdZ quoZ remZ fullZ fullE
theorem early_ok (f : Fl) (d : Int) : ACalls Try.prog 28 [aW f, .one (.ptr [.int .i64 d])] (.pv (cB (decide (f.day < d)))) := by
  refine ACalls.of_W (qs := [cB (decide (f.day < d))]) [3] 8 Try.func28 (by kernel_rfl) rfl rfl rfl fun G => ?_
  refine W.initA (hw := ?_)
  repeat' (first | ((first | apply U_); (first | exact QX.B TYok); exact rfl) | refine SX.Box TYok (h := ?_) | refine SC ?_ | (refine W.condA (ht := fun hb => ?_) (hf := fun hb => ?_) <;> (try simp at hb) <;> (try (exfalso; omega))))
  all_goals first
    | exact Fin.ret ResL.auto
    | trace_state
theorem late_ok (f : Fl) (d : Int) (L : List Fq) (h : (0 ≤ f.day ∧ f.day ≤ 200000) ∧ (0 ≤ d ∧ d ≤ f.day)) : ACalls Try.prog 29 [aW f, .one (.ptr [.int .i64 d]), .one (.ptr [.sl (L.map encF)])] (.pv (cB (decide ((L.length : Int) ≤ yrI d f)))) := by
  unfold yrI
  refine ACalls.of_W (qs := [cB (decide ((L.length : Int) ≤ (f.day - d) / 365))]) [4] 13 Try.func29 (by kernel_rfl) rfl rfl rfl fun G => ?_
  refine W.initA (hw := ?_)
  repeat' (first | ((first | apply U_); (first | exact QX.B TYok | exact QX.Len TYok); exact rfl) | refine SX.Box TYok (h := ?_) | refine SC ?_ | (refine W.condA (ht := fun hb => ?_) (hf := fun hb => ?_) <;> (try simp at hb) <;> (try (exfalso; omega))))
  all_goals first
    | exact Fin.ret ResL.auto
    | trace_state
section
variable (l : List Fl) (d : Int) (L : List Fq) (hl : l.length ≤ 9223372036854775807) (hL : L.length ≤ 9223372036854775807) (hq : ∀ q ∈ L, FqOk q)
include hl hL hq
open Classical in
theorem value_arg (h : ¬ (flowsB l d = true ∧ FOk L)) : ACalls Try.prog 10 [slW l, cI d, slF L] (.tup [zF0, cI 1]) := by
  have p1 := pright_ok l d hl
  have p2 := pfac_ok L hL hq (decide (FOk L)) (by simp)
  have hbad : flowsB l d = true ∧ decide (FOk L) = true → False := fun q => h ⟨q.1, of_decide_eq_true q.2⟩
  generalize flowsB l d = b1 at *
  generalize decide (FOk L) = b2 at *
  refine ACalls.of_M TYok (qs := [zF0, cI 1]) [.cell 6 31, .tmp 7] 67 Try.func10 (by kernel_rfl) rfl rfl rfl fun G => ?_
  refine W.initA (hw := ?_)
  repeat' (first | ((first | apply U_ | (apply Ug_; exact rfl; exact rfl) | (apply Ugq_; exact rfl; exact rfl)); (first | exact QX.B TYok | exact QX.Len TYok | exact QX.Idx TYok | exact QX.Ext TYok | exact QX.Build TYok | exact QX.Fun TYok | exact QCd (p1) | exact QCd (p2)); exact rfl) | refine SX.Alloc TYok (h := ?_) | refine SX.Store TYok (h := ?_) | refine SX.Box TYok (h := ?_) | refine SC ?_ | (apply S_isnil TYok; exact rfl; exact rfl; exact rfl; exact Ev.auto; intro bn hnil) | refine SG ?_ | apply LexS.nil | (apply LexS.f; exact rfl; (first | (apply FreshV.alloc TYok; exact rfl; exact rfl; exact rfl; exact rfl) | (apply FreshV.lit TYok; (repeat (first | exact EvR.nil | apply EvR.cons Ev.auto)); exact rfl; exact rfl; exact rfl; exact rfl; exact rfl; exact rfl; exact rfl; exact rfl; exact rfl) | (apply FreshV.box; exact Ev.auto; exact rfl; exact rfl; exact rfl)); exact rfl; exact rfl; exact rfl) | (apply LexS.s; exact rfl; exact rfl; (apply StoreV.mk TYok; exact Ev.auto; exact Ev.auto; exact rfl; exact rfl; exact rfl; exact rfl; exact rfl)) | ((first | apply LexS.u | (apply LexS.g; exact rfl; exact rfl) | (apply LexS.gq; exact rfl; exact rfl)); (repeat (first | (apply NB.cons; exact rfl) | exact NB.nil rfl)); (first | exact QX.B TYok | exact QX.Len TYok | exact QX.Idx TYok | exact QX.Ext TYok | exact QX.Build TYok | exact QX.Fun TYok | exact QCd (p1) | exact QCd (p2)); exact rfl; exact rfl; exact rfl) | (refine W.drawS (id := 11) [0, 1, 3, 0, 0, 16, 0, 112, 240, 504, 1016, 2047, 4095, 8191, 8191, 0, 49151, 131071] [[10], [39], [40], [5], [10], [43], [4], [44, 45], [46], [42, 47], [48], [41, 49], [50], [38], [38], [], [11, 51], [52]] [(16, (11, ?_)), (15, (11, ?_))] [(16, 11), (15, 11)] mixed (by kernel_rfl) rfl ?_; rotate_left 2) | (refine W.condA (ht := fun hb => ?_) (hf := fun hb => ?_) <;> (try simp at hb) <;> (try (exfalso; first | exact hbad hb | omega))))
  all_goals first
    | exact FinM.ret (ResM.cell rfl rfl rfl rfl zeroSubF (ResM.tmp rfl rfl PSub.rfl' ResM.nil))
    | trace_state
theorem value_early (h1 : flowsB l d = true) (h2 : FOk L) (he : (l.any fun f => decide (f.day < d)) = true) : ACalls Try.prog 10 [slW l, cI d, slF L] (.tup [zF0, cI 20]) := by
  have p1 := pright_ok l d hl
  rw [h1] at p1
  have p2 := pfac_ok L hL hq true (by simp [h2])
  have c1 := contains_ok l 28 [.ptr [.int .i64 d]] (fun f => decide (f.day < d)) hl (fun x _ => early_ok x d)
  rw [he] at c1
  refine ACalls.of_M TYok (qs := [zF0, cI 20]) [.cell 6 31, .tmp 7] 67 Try.func10 (by kernel_rfl) rfl rfl rfl fun G => ?_
  refine W.initA (hw := ?_)
  repeat' (first | (refine W.weaken (Le.freeze1 (m := 4) rfl) ?_; refine W.weaken (Le.freeze1 (m := 5) rfl) ?_; apply W.region (id := 3)) | ((first | apply U_ | (apply Ug_; exact rfl; exact rfl) | (apply Ugq_; exact rfl; exact rfl)); (first | exact QX.B TYok | exact QX.Len TYok | exact QX.Idx TYok | exact QX.Ext TYok | exact QX.Build TYok | exact QX.Fun TYok | exact QCd (p1) | exact QCd (p2) | exact QCd (c1)); exact rfl) | refine SX.Alloc TYok (h := ?_) | refine SX.Store TYok (h := ?_) | refine SX.Box TYok (h := ?_) | refine SC ?_ | (apply S_isnil TYok; exact rfl; exact rfl; exact rfl; exact Ev.auto; intro bn hnil) | refine SG ?_ | apply LexS.nil | (apply LexS.f; exact rfl; (first | (apply FreshV.alloc TYok; exact rfl; exact rfl; exact rfl; exact rfl) | (apply FreshV.lit TYok; (repeat (first | exact EvR.nil | apply EvR.cons Ev.auto)); exact rfl; exact rfl; exact rfl; exact rfl; exact rfl; exact rfl; exact rfl; exact rfl; exact rfl) | (apply FreshV.box; exact Ev.auto; exact rfl; exact rfl; exact rfl)); exact rfl; exact rfl; exact rfl) | (apply LexS.s; exact rfl; exact rfl; (apply StoreV.mk TYok; exact Ev.auto; exact Ev.auto; exact rfl; exact rfl; exact rfl; exact rfl; exact rfl)) | ((first | apply LexS.u | (apply LexS.g; exact rfl; exact rfl) | (apply LexS.gq; exact rfl; exact rfl)); (repeat (first | (apply NB.cons; exact rfl) | exact NB.nil rfl)); (first | exact QX.B TYok | exact QX.Len TYok | exact QX.Idx TYok | exact QX.Ext TYok | exact QX.Build TYok | exact QX.Fun TYok | exact QCd (p1) | exact QCd (p2) | exact QCd (c1)); exact rfl; exact rfl; exact rfl) | (refine W.drawS (id := 11) [0, 1, 3, 0, 0, 16, 0, 112, 240, 504, 1016, 2047, 4095, 8191, 8191, 0, 49151, 131071] [[10], [39], [40], [5], [10], [43], [4], [44, 45], [46], [42, 47], [48], [41, 49], [50], [38], [38], [], [11, 51], [52]] [(16, (11, ?_)), (15, (11, ?_))] [(16, 11), (15, 11)] mixed (by kernel_rfl) rfl ?_; rotate_left 2) | (refine W.condA (ht := fun hb => ?_) (hf := fun hb => ?_) <;> (try simp at hb) <;> (try (exfalso; omega))))
  all_goals first
    | exact FinM.ret (ResM.cell rfl rfl rfl rfl zeroSubF (ResM.tmp rfl rfl PSub.rfl' ResM.nil))
    | trace_state
theorem value_late (h1 : flowsB l d = true) (h2 : FOk L) (he : (l.any fun f => decide (f.day < d)) = false) (hla : (l.any fun f => decide ((L.length : Int) ≤ yrI d f)) = true) : ACalls Try.prog 10 [slW l, cI d, slF L] (.tup [zF0, cI 3]) := by
  have p1 := pright_ok l d hl
  rw [h1] at p1
  have p2 := pfac_ok L hL hq true (by simp [h2])
  have fy := flowsB_yes h1
  have c1 := contains_ok l 28 [.ptr [.int .i64 d]] (fun f => decide (f.day < d)) hl (fun x _ => early_ok x d)
  have c2 := contains_ok l 29 [.ptr [.int .i64 d], .ptr [.sl (L.map encF)]] (fun f => decide ((L.length : Int) ≤ yrI d f)) hl (fun x hx => late_ok x d L (by
    have := fy.2 x hx
    have h3 := List.any_eq_false.1 he x hx
    simp only [decide_eq_true_iff] at h3
    omega))
  rw [he] at c1
  rw [hla] at c2
  refine ACalls.of_M TYok (qs := [zF0, cI 3]) [.cell 6 31, .tmp 7] 67 Try.func10 (by kernel_rfl) rfl rfl rfl fun G => ?_
  refine W.initA (hw := ?_)
  repeat' (first | (refine W.weaken (Le.freeze1 (m := 4) rfl) ?_; refine W.weaken (Le.freeze1 (m := 5) rfl) ?_; apply W.region (id := 3)) | ((first | apply U_ | (apply Ug_; exact rfl; exact rfl) | (apply Ugq_; exact rfl; exact rfl)); (first | exact QX.B TYok | exact QX.Len TYok | exact QX.Idx TYok | exact QX.Ext TYok | exact QX.Build TYok | exact QX.Fun TYok | exact QCd (p1) | exact QCd (p2) | exact QCd (c1) | exact QCd (c2)); exact rfl) | refine SX.Alloc TYok (h := ?_) | refine SX.Store TYok (h := ?_) | refine SX.Box TYok (h := ?_) | refine SC ?_ | (apply S_isnil TYok; exact rfl; exact rfl; exact rfl; exact Ev.auto; intro bn hnil) | refine SG ?_ | apply LexS.nil | (apply LexS.f; exact rfl; (first | (apply FreshV.alloc TYok; exact rfl; exact rfl; exact rfl; exact rfl) | (apply FreshV.lit TYok; (repeat (first | exact EvR.nil | apply EvR.cons Ev.auto)); exact rfl; exact rfl; exact rfl; exact rfl; exact rfl; exact rfl; exact rfl; exact rfl; exact rfl) | (apply FreshV.box; exact Ev.auto; exact rfl; exact rfl; exact rfl)); exact rfl; exact rfl; exact rfl) | (apply LexS.s; exact rfl; exact rfl; (apply StoreV.mk TYok; exact Ev.auto; exact Ev.auto; exact rfl; exact rfl; exact rfl; exact rfl; exact rfl)) | ((first | apply LexS.u | (apply LexS.g; exact rfl; exact rfl) | (apply LexS.gq; exact rfl; exact rfl)); (repeat (first | (apply NB.cons; exact rfl) | exact NB.nil rfl)); (first | exact QX.B TYok | exact QX.Len TYok | exact QX.Idx TYok | exact QX.Ext TYok | exact QX.Build TYok | exact QX.Fun TYok | exact QCd (p1) | exact QCd (p2) | exact QCd (c1) | exact QCd (c2)); exact rfl; exact rfl; exact rfl) | (refine W.drawS (id := 11) [0, 1, 3, 0, 0, 16, 0, 112, 240, 504, 1016, 2047, 4095, 8191, 8191, 0, 49151, 131071] [[10], [39], [40], [5], [10], [43], [4], [44, 45], [46], [42, 47], [48], [41, 49], [50], [38], [38], [], [11, 51], [52]] [(16, (11, ?_)), (15, (11, ?_))] [(16, 11), (15, 11)] mixed (by kernel_rfl) rfl ?_; rotate_left 2) | (refine W.condA (ht := fun hb => ?_) (hf := fun hb => ?_) <;> (try simp at hb) <;> (try (exfalso; omega))))
  all_goals first
    | exact FinM.ret (ResM.cell rfl rfl rfl rfl zeroSubF (ResM.tmp rfl rfl PSub.rfl' ResM.nil))
    | trace_state
end
section
variable (l : List Fl) (d : Int) (L : List Fq) (hv : VIn l d L) (hq : ∀ q ∈ L, FqOk q)
include hv hq
theorem value_walk (n : Nat) (hn : n ≤ l.length) (hu : ∀ j, j < n → addOk (vsum L d l j) (term L d (nth l j))) (e : Int) (V : PV) (he : (e = 0 ∧ n = l.length ∧ V = zF (vsum L d l n)) ∨ (e = 6 ∧ n < l.length ∧ V = zF0 ∧ ¬ addOk (vsum L d l n) (term L d (nth l n)))) :
    ACalls Try.prog 10 [slW l, cI d, slF L] (.tup [V, cI e]) := by
  have fy := flowsB_yes hv.fl
  have hl : l.length ≤ 9223372036854775807 := by omega
  have hL : L.length ≤ 9223372036854775807 := by have := hv.fk.2; omega
  have p1 := pright_ok l d hl
  rw [hv.fl] at p1
  have p2 := pfac_ok L hL hq true (by simp [hv.fk])
  have c1 := contains_ok l 28 [.ptr [.int .i64 d]] (fun f => decide (f.day < d)) hl (fun x _ => early_ok x d)
  have c2 := contains_ok l 29 [.ptr [.int .i64 d], .ptr [.sl (L.map encF)]] (fun f => decide ((L.length : Int) ≤ yrI d f)) hl (fun x hx => late_ok x d L (by
    have := fy.2 x hx
    have h3 := hv.early x hx
    omega))
  rw [List.any_eq_false.2 fun x hx => by have := hv.early x hx; simp only [decide_eq_true_iff]; omega] at c1
  rw [List.any_eq_false.2 fun x hx => by have := hv.late x hx; simp only [decide_eq_true_iff]; omega] at c2
  have w0 := whole_ok 0 (by unfold i64B; omega)
  have okS := vsum_ok hv hn hu
  refine ACalls.of_M TYok (qs := [V, cI e]) [.cell 6 31, .tmp 7] 67 Try.func10 (by kernel_rfl) rfl rfl rfl fun G => ?_
  refine W.initA (hw := ?_)
  repeat' (first | (refine W.weaken (Le.freeze1 (m := 4) rfl) ?_; refine W.weaken (Le.freeze1 (m := 5) rfl) ?_; apply W.region (id := 3)) | ((first | apply U_ | (apply Ug_; exact rfl; exact rfl) | (apply Ugq_; exact rfl; exact rfl)); (first | exact QX.B TYok | exact QX.Len TYok | exact QX.Idx TYok | exact QX.Ext TYok | exact QX.Build TYok | exact QX.Fun TYok | exact QCd (p1) | exact QCd (p2) | exact QCd (c1) | exact QCd (c2) | exact QCd (w0)); exact rfl) | refine SX.Alloc TYok (h := ?_) | refine SX.Store TYok (h := ?_) | refine SX.Box TYok (h := ?_) | refine SC ?_ | (apply S_isnil TYok; exact rfl; exact rfl; exact rfl; exact Ev.auto; intro bn hnil) | refine SG ?_ | apply LexS.nil | (apply LexS.f; exact rfl; (first | (apply FreshV.alloc TYok; exact rfl; exact rfl; exact rfl; exact rfl) | (apply FreshV.lit TYok; (repeat (first | exact EvR.nil | apply EvR.cons Ev.auto)); exact rfl; exact rfl; exact rfl; exact rfl; exact rfl; exact rfl; exact rfl; exact rfl; exact rfl) | (apply FreshV.box; exact Ev.auto; exact rfl; exact rfl; exact rfl)); exact rfl; exact rfl; exact rfl) | (apply LexS.s; exact rfl; exact rfl; (apply StoreV.mk TYok; exact Ev.auto; exact Ev.auto; exact rfl; exact rfl; exact rfl; exact rfl; exact rfl)) | ((first | apply LexS.u | (apply LexS.g; exact rfl; exact rfl) | (apply LexS.gq; exact rfl; exact rfl)); (repeat (first | (apply NB.cons; exact rfl) | exact NB.nil rfl)); (first | exact QX.B TYok | exact QX.Len TYok | exact QX.Idx TYok | exact QX.Ext TYok | exact QX.Build TYok | exact QX.Fun TYok | exact QCd (p1) | exact QCd (p2) | exact QCd (c1) | exact QCd (c2) | exact QCd (w0)); exact rfl; exact rfl; exact rfl) | (refine W.drawS (id := 11) [0, 1, 3, 0, 0, 16, 0, 112, 240, 504, 1016, 2047, 4095, 8191, 8191, 0, 49151, 131071] [[10], [39], [40], [5], [10], [43], [4], [44, 45], [46], [42, 47], [48], [41, 49], [50], [38], [38], [], [11, 51], [52]] [(16, (11, ?_)), (15, (11, ?_))] [(16, 11), (15, 11)] mixed (by kernel_rfl) rfl ?_; rotate_left 2) | (refine W.condA (ht := fun hb => ?_) (hf := fun hb => ?_) <;> (try simp at hb) <;> (try (exfalso; omega))))
  apply W.loopP (σ := Nat) 67 [4, 5, 6, 8, 32, 33] (fun k => k ≤ n) (fun k => [(34, vI k)]) (fun k => [(6, ⟨31, 4, [[.int .i64 0, .slnil, .int .i64 0, .slnil]]⟩), (8, ⟨31, 4, [encQ (vsum L d l k)]⟩)]) (fun k => n - k) (0)
  case hp => repeat (first | exact Pick.nil | apply Pick.cons rfl)
  case h0 =>
    refine ⟨by omega, ?_⟩
    exact Le.auto
  case round =>
    rintro k gk
    apply W.norm (by repeat (first | exact App.nil | apply App.cons))
    by_cases hk : k < l.length
    case neg =>
      obtain rfl : k = n := by omega
      rcases he with ⟨rfl, rfl, rfl⟩ | ⟨rfl, h3, rfl, hno⟩
      · generalize vsum L d l l.length = A at *
        repeat' (first | ((first | apply U_ | (apply Ug_; exact rfl; exact rfl) | (apply Ugq_; exact rfl; exact rfl)); (first | exact QX.B TYok | exact QX.Len TYok | exact QX.Idx TYok | exact QX.Ext TYok | exact QX.Build TYok | exact QX.Fun TYok); exact rfl) | refine SX.Alloc TYok (h := ?_) | refine SX.Store TYok (h := ?_) | refine SX.Box TYok (h := ?_) | refine SC ?_ | (apply S_isnil TYok; exact rfl; exact rfl; exact rfl; exact Ev.auto; intro bn hnil) | refine SG ?_ | apply LexS.nil | (apply LexS.f; exact rfl; (first | (apply FreshV.alloc TYok; exact rfl; exact rfl; exact rfl; exact rfl) | (apply FreshV.lit TYok; (repeat (first | exact EvR.nil | apply EvR.cons Ev.auto)); exact rfl; exact rfl; exact rfl; exact rfl; exact rfl; exact rfl; exact rfl; exact rfl; exact rfl) | (apply FreshV.box; exact Ev.auto; exact rfl; exact rfl; exact rfl)); exact rfl; exact rfl; exact rfl) | (apply LexS.s; exact rfl; exact rfl; (apply StoreV.mk TYok; exact Ev.auto; exact Ev.auto; exact rfl; exact rfl; exact rfl; exact rfl; exact rfl)) | ((first | apply LexS.u | (apply LexS.g; exact rfl; exact rfl) | (apply LexS.gq; exact rfl; exact rfl)); (repeat (first | (apply NB.cons; exact rfl) | exact NB.nil rfl)); (first | exact QX.B TYok | exact QX.Len TYok | exact QX.Idx TYok | exact QX.Ext TYok | exact QX.Build TYok | exact QX.Fun TYok); exact rfl; exact rfl; exact rfl) | (refine W.drawS (id := 11) [0, 1, 3, 0, 0, 16, 0, 112, 240, 504, 1016, 2047, 4095, 8191, 8191, 0, 49151, 131071] [[10], [39], [40], [5], [10], [43], [4], [44, 45], [46], [42, 47], [48], [41, 49], [50], [38], [38], [], [11, 51], [52]] [(16, (11, ?_)), (15, (11, ?_))] [(16, 11), (15, 11)] mixed (by kernel_rfl) rfl ?_; rotate_left 2) | (refine W.condA (ht := fun hb => ?_) (hf := fun hb => ?_) <;> (try simp at hb) <;> (try (exfalso; omega))))
        all_goals first
          | exact FinM.ret ResM.auto
          | (exfalso; omega)
          | trace_state
      · exact absurd h3 hk
    obtain ⟨hy, tb, tm⟩ := hv.term_bd hk
    have hm := nth_mem hk
    have f1 := fy.2 _ hm
    have f2 := hv.early _ hm
    have w1 := whole_ok (nth l k).amt (by unfold i64B; omega)
    have oy := hv.fk.1 (yrI d (nth l k)).toNat (by omega)
    obtain ⟨ov, ev⟩ := Fq.of_val oy.1
    have m1 := fmul_yes _ _ (okF_int (n := (nth l k).amt) (by unfold i64B; omega)) ov tm
    rw [show zF (nth L (yrI d (nth l k)).toNat).val = fqV (nth L (yrI d (nth l k)).toNat) from (congrArg fqV ev).symm] at m1
    have et : ((nth l k).amt : Rat) * (nth L (yrI d (nth l k)).toNat).val = term L d (nth l k) := rfl
    rw [et] at m1
    have oS := okS k gk
    have oT := bd_ok tb (by omega)
    have hyI : yrI d (nth l k) = ((nth l k).day - d) / 365 := rfl
    rw [hyI] at m1 hy
    clear et tm tb ev ov oy
    by_cases hk2 : k < n
    · have a1 := add_yes _ _ oS oT (hu k hk2)
      have e1 : vsum L d l (k + 1) = vsum L d l k + term L d (nth l k) := rfl
      rw [← e1] at a1
      clear e1
      generalize hS : vsum L d l k = S at *
      generalize hT : term L d (nth l k) = T at *
      generalize hB : vsum L d l (k + 1) = B at *
      repeat' (first | ((first | apply U_ | (apply Ug_; exact rfl; exact rfl) | (apply Ugq_; exact rfl; exact rfl)); (first | exact QX.B TYok | exact QX.Len TYok | exact QX.Idx TYok | exact QX.Ext TYok | exact QX.Build TYok | exact QX.Fun TYok | exact QCd (w1) | exact QCd (m1) | exact QCd (a1)); exact rfl) | refine SX.Alloc TYok (h := ?_) | refine SX.Store TYok (h := ?_) | refine SX.Box TYok (h := ?_) | refine SC ?_ | (apply S_isnil TYok; exact rfl; exact rfl; exact rfl; exact Ev.auto; intro bn hnil) | refine SG ?_ | apply LexS.nil | (apply LexS.f; exact rfl; (first | (apply FreshV.alloc TYok; exact rfl; exact rfl; exact rfl; exact rfl) | (apply FreshV.lit TYok; (repeat (first | exact EvR.nil | apply EvR.cons Ev.auto)); exact rfl; exact rfl; exact rfl; exact rfl; exact rfl; exact rfl; exact rfl; exact rfl; exact rfl) | (apply FreshV.box; exact Ev.auto; exact rfl; exact rfl; exact rfl)); exact rfl; exact rfl; exact rfl) | (apply LexS.s; exact rfl; exact rfl; (apply StoreV.mk TYok; exact Ev.auto; exact Ev.auto; exact rfl; exact rfl; exact rfl; exact rfl; exact rfl)) | ((first | apply LexS.u | (apply LexS.g; exact rfl; exact rfl) | (apply LexS.gq; exact rfl; exact rfl)); (repeat (first | (apply NB.cons; exact rfl) | exact NB.nil rfl)); (first | exact QX.B TYok | exact QX.Len TYok | exact QX.Idx TYok | exact QX.Ext TYok | exact QX.Build TYok | exact QX.Fun TYok | exact QCd (w1) | exact QCd (m1) | exact QCd (a1)); exact rfl; exact rfl; exact rfl) | (refine W.drawS (id := 11) [0, 1, 3, 0, 0, 16, 0, 112, 240, 504, 1016, 2047, 4095, 8191, 8191, 0, 49151, 131071] [[10], [39], [40], [5], [10], [43], [4], [44, 45], [46], [42, 47], [48], [41, 49], [50], [38], [38], [], [11, 51], [52]] [(16, (11, ?_)), (15, (11, ?_))] [(16, 11), (15, 11)] mixed (by kernel_rfl) rfl ?_; rotate_left 2) | (refine W.condA (ht := fun hb => ?_) (hf := fun hb => ?_) <;> (try simp at hb) <;> (try (exfalso; omega))))
      all_goals first
        | (refine ⟨k + 1, by omega, ?_, by omega⟩; (try dsimp only); rw [hB]; exact Le.auto)
        | trace_state
    · obtain rfl : k = n := by omega
      rcases he with ⟨rfl, h3, rfl⟩ | ⟨rfl, h3, rfl, hno⟩
      · omega
      · have a1 := add_no _ _ oS oT hno
        generalize hS : vsum L d l k = S at *
        generalize hT : term L d (nth l k) = T at *
        repeat' (first | ((first | apply U_ | (apply Ug_; exact rfl; exact rfl) | (apply Ugq_; exact rfl; exact rfl)); (first | exact QX.B TYok | exact QX.Len TYok | exact QX.Idx TYok | exact QX.Ext TYok | exact QX.Build TYok | exact QX.Fun TYok | exact QCd (w1) | exact QCd (m1) | exact QCd (a1)); exact rfl) | refine SX.Alloc TYok (h := ?_) | refine SX.Store TYok (h := ?_) | refine SX.Box TYok (h := ?_) | refine SC ?_ | (apply S_isnil TYok; exact rfl; exact rfl; exact rfl; exact Ev.auto; intro bn hnil) | refine SG ?_ | apply LexS.nil | (apply LexS.f; exact rfl; (first | (apply FreshV.alloc TYok; exact rfl; exact rfl; exact rfl; exact rfl) | (apply FreshV.lit TYok; (repeat (first | exact EvR.nil | apply EvR.cons Ev.auto)); exact rfl; exact rfl; exact rfl; exact rfl; exact rfl; exact rfl; exact rfl; exact rfl; exact rfl) | (apply FreshV.box; exact Ev.auto; exact rfl; exact rfl; exact rfl)); exact rfl; exact rfl; exact rfl) | (apply LexS.s; exact rfl; exact rfl; (apply StoreV.mk TYok; exact Ev.auto; exact Ev.auto; exact rfl; exact rfl; exact rfl; exact rfl; exact rfl)) | ((first | apply LexS.u | (apply LexS.g; exact rfl; exact rfl) | (apply LexS.gq; exact rfl; exact rfl)); (repeat (first | (apply NB.cons; exact rfl) | exact NB.nil rfl)); (first | exact QX.B TYok | exact QX.Len TYok | exact QX.Idx TYok | exact QX.Ext TYok | exact QX.Build TYok | exact QX.Fun TYok | exact QCd (w1) | exact QCd (m1) | exact QCd (a1)); exact rfl; exact rfl; exact rfl) | (refine W.drawS (id := 11) [0, 1, 3, 0, 0, 16, 0, 112, 240, 504, 1016, 2047, 4095, 8191, 8191, 0, 49151, 131071] [[10], [39], [40], [5], [10], [43], [4], [44, 45], [46], [42, 47], [48], [41, 49], [50], [38], [38], [], [11, 51], [52]] [(16, (11, ?_)), (15, (11, ?_))] [(16, 11), (15, 11)] mixed (by kernel_rfl) rfl ?_; rotate_left 2) | (refine W.condA (ht := fun hb => ?_) (hf := fun hb => ?_) <;> (try simp at hb) <;> (try (exfalso; omega))))
        all_goals first
          | exact FinM.ret (ResM.cell rfl rfl rfl rfl zeroSubF (ResM.tmp rfl rfl PSub.rfl' ResM.nil))
          | trace_state
end
end
end Go.Proofs.Ytgpcmgjdkefdjaa
end
section
set_option linter.unusedVariables false
set_option linter.unusedSimpArgs false
set_option maxHeartbeats 8000000
namespace Go.Proofs.Ytgpcmgjdkefdjaa
open Lf Go
attribute [local irreducible] PureOp EffOp Ev RG W Then InBlock Lf.Fin nth App InitE Pick EvL EvD EvP EvR ResL Lf.Lex SubR SubBR RA RAll EvC FinO FinM ResM ResD FinS val pw digs trimL
section
attribute [local irreducible] sgn mag gcdZ quoZ remZ fullZ fullE
theorem year_ok (f : Fl) (d : Int) (h : (0 ≤ f.day ∧ f.day ≤ 200000) ∧ (0 ≤ d ∧ d ≤ 200000)) : ACalls Try.prog 33 [aW f, cI d] (.pv (cI (if f.day < d then -1 else yrI d f))) := by
  by_cases h1 : f.day < d
  · rw [if_pos h1]
    refine ACalls.of_W (qs := [cI (-1)]) [4] 14 Try.func33 (by kernel_rfl) rfl rfl rfl fun G => ?_
    refine W.initA (hw := ?_)
    repeat' (first | ((first | apply U_); (first | exact QX.B TYok); exact rfl) | refine SX.Box TYok (h := ?_) | refine SC ?_ | (refine W.condA (ht := fun hb => ?_) (hf := fun hb => ?_) <;> (try simp at hb) <;> (try (exfalso; omega))))
    all_goals exact Fin.ret ResL.auto
  · rw [if_neg h1]
    unfold yrI
    refine ACalls.of_W (qs := [cI ((f.day - d) / 365)]) [4] 14 Try.func33 (by kernel_rfl) rfl rfl rfl fun G => ?_
    refine W.initA (hw := ?_)
    repeat' (first | ((first | apply U_); (first | exact QX.B TYok); exact rfl) | refine SX.Box TYok (h := ?_) | refine SC ?_ | (refine W.condA (ht := fun hb => ?_) (hf := fun hb => ?_) <;> (try simp at hb) <;> (try (exfalso; omega))))
    all_goals exact Fin.ret ResL.auto
def lateB (L : List Fq) (d : Int) (f : Fl) : Bool := decide ((L.length : Int) ≤ yrI d f)
section
variable (l : List Fl) (d : Int) (L : List Fq) (hl : l.length ≤ 9223372036854775807) (hL : L.length ≤ 9223372036854775807) (hq : ∀ q ∈ L, FqOk q)
include hl hL hq
open Classical in
theorem rvalue_arg (h : ¬ (flowsB l d = true ∧ FOk L)) : ACalls Try.prog 11 [slW l, cI d, slF L] (.tup [zF0, cI 1]) := by
  have p1 := flows_ok l d hl
  have p2 := rfac_ok L hL hq (decide (FOk L)) (by simp)
  have hbad : flowsB l d = true ∧ decide (FOk L) = true → False := fun q => h ⟨q.1, of_decide_eq_true q.2⟩
  generalize flowsB l d = b1 at *
  generalize decide (FOk L) = b2 at *
  refine ACalls.of_M TYok (qs := [zF0, cI 1]) [.cell 6 31, .tmp 7] 96 Try.func11 (by kernel_rfl) rfl rfl rfl fun G => ?_
  refine W.initA (hw := ?_)
  repeat' (first | ((first | apply U_ | (apply Ug_; exact rfl; exact rfl) | (apply Ugq_; exact rfl; exact rfl)); (first | exact QX.B TYok | exact QX.Len TYok | exact QX.Idx TYok | exact QX.Ext TYok | exact QX.Build TYok | exact QCd (p1) | exact QCd (p2)); exact rfl) | refine SX.Alloc TYok (h := ?_) | refine SX.Store TYok (h := ?_) | refine SC ?_ | refine SG ?_ | apply LexS.nil | (apply LexS.f; exact rfl; (first | (apply FreshV.alloc TYok; exact rfl; exact rfl; exact rfl; exact rfl) | (apply FreshV.lit TYok; (repeat (first | exact EvR.nil | apply EvR.cons Ev.auto)); exact rfl; exact rfl; exact rfl; exact rfl; exact rfl; exact rfl; exact rfl; exact rfl; exact rfl) | (apply FreshV.box; exact Ev.auto; exact rfl; exact rfl; exact rfl)); exact rfl; exact rfl; exact rfl) | (apply LexS.s; exact rfl; exact rfl; (apply StoreV.mk TYok; exact Ev.auto; exact Ev.auto; exact rfl; exact rfl; exact rfl; exact rfl; exact rfl)) | ((first | apply LexS.u | (apply LexS.g; exact rfl; exact rfl) | (apply LexS.gq; exact rfl; exact rfl)); (repeat (first | (apply NB.cons; exact rfl) | exact NB.nil rfl)); (first | exact QX.B TYok | exact QX.Len TYok | exact QX.Idx TYok | exact QX.Ext TYok | exact QX.Build TYok | exact QCd (p1) | exact QCd (p2)); exact rfl; exact rfl; exact rfl) | (refine W.drawS (id := 16) [0, 0, 3, 7, 15, 31, 0, 0, 0, 384, 896, 0, 4031, 8191, 16383, 32767, 65535, 131071, 131071, 0, 786431, 2097151] [[0], [11], [62, 63], [64], [65], [66], [2], [0], [11], [69, 70], [71], [1], [72, 73], [68, 74], [75], [67, 76], [77], [61], [61], [], [12, 78], [79]] [(20, (12, ?_)), (19, (12, ?_))] [(20, 12), (19, 12)] mixed (by kernel_rfl) rfl ?_; rotate_left 2) | (refine W.condA (ht := fun hb => ?_) (hf := fun hb => ?_) <;> (try simp at hb) <;> (try (exfalso; first | exact hbad hb | omega))))
  all_goals first
    | exact FinM.ret (ResM.cell rfl rfl rfl rfl zeroSubF (ResM.tmp rfl rfl PSub.rfl' ResM.nil))
    | trace_state
theorem rvalue_early (h1 : flowsB l d = true) (h2 : FOk L) (he : (l.any fun f => decide (f.day < d)) = true) : ACalls Try.prog 11 [slW l, cI d, slF L] (.tup [zF0, cI 20]) := by
  have p1 := flows_ok l d hl
  rw [h1] at p1
  have p2 := rfac_ok L hL hq true (by simp [h2])
  have fy := flowsB_yes h1
  refine ACalls.of_M TYok (qs := [zF0, cI 20]) [.cell 6 31, .tmp 7] 96 Try.func11 (by kernel_rfl) rfl rfl rfl fun G => ?_
  refine W.initA (hw := ?_)
  repeat' (first | ((first | apply U_ | (apply Ug_; exact rfl; exact rfl) | (apply Ugq_; exact rfl; exact rfl)); (first | exact QX.B TYok | exact QX.Len TYok | exact QX.Idx TYok | exact QX.Ext TYok | exact QX.Build TYok | exact QCd (p1) | exact QCd (p2)); exact rfl) | refine SX.Alloc TYok (h := ?_) | refine SX.Store TYok (h := ?_) | refine SC ?_ | refine SG ?_ | apply LexS.nil | (apply LexS.f; exact rfl; (first | (apply FreshV.alloc TYok; exact rfl; exact rfl; exact rfl; exact rfl) | (apply FreshV.lit TYok; (repeat (first | exact EvR.nil | apply EvR.cons Ev.auto)); exact rfl; exact rfl; exact rfl; exact rfl; exact rfl; exact rfl; exact rfl; exact rfl; exact rfl) | (apply FreshV.box; exact Ev.auto; exact rfl; exact rfl; exact rfl)); exact rfl; exact rfl; exact rfl) | (apply LexS.s; exact rfl; exact rfl; (apply StoreV.mk TYok; exact Ev.auto; exact Ev.auto; exact rfl; exact rfl; exact rfl; exact rfl; exact rfl)) | ((first | apply LexS.u | (apply LexS.g; exact rfl; exact rfl) | (apply LexS.gq; exact rfl; exact rfl)); (repeat (first | (apply NB.cons; exact rfl) | exact NB.nil rfl)); (first | exact QX.B TYok | exact QX.Len TYok | exact QX.Idx TYok | exact QX.Ext TYok | exact QX.Build TYok | exact QCd (p1) | exact QCd (p2)); exact rfl; exact rfl; exact rfl) | (refine W.drawS (id := 16) [0, 0, 3, 7, 15, 31, 0, 0, 0, 384, 896, 0, 4031, 8191, 16383, 32767, 65535, 131071, 131071, 0, 786431, 2097151] [[0], [11], [62, 63], [64], [65], [66], [2], [0], [11], [69, 70], [71], [1], [72, 73], [68, 74], [75], [67, 76], [77], [61], [61], [], [12, 78], [79]] [(20, (12, ?_)), (19, (12, ?_))] [(20, 12), (19, 12)] mixed (by kernel_rfl) rfl ?_; rotate_left 2) | (refine W.condA (ht := fun hb => ?_) (hf := fun hb => ?_) <;> (try simp at hb) <;> (try (exfalso; omega))))
  apply W.loopP (σ := Nat) 96 [0, 1, 2, 6] (fun k => k ≤ l.length ∧ ((l.take k).any fun f => decide (f.day < d)) = false) (fun k => [(9, vI k), (8, (True, .pv (cB ((l.take k).any (lateB L d)))))]) (fun k => [(6, ⟨31, 4, [[.int .i64 0, .slnil, .int .i64 0, .slnil]]⟩)]) (fun k => l.length - k) (0)
  case hp => repeat (first | exact Pick.nil | apply Pick.cons rfl)
  case h0 =>
    refine ⟨by simp, ?_⟩
    exact Le.auto
  case round =>
    rintro k ⟨g1, g2⟩
    apply W.norm (by repeat (first | exact App.nil | apply App.cons))
    by_cases hk : k < l.length
    case neg =>
      obtain rfl : k = l.length := by omega
      rw [List.take_length, he] at g2
      cases g2
    have hm := nth_mem hk
    have f1 := fy.2 _ hm
    have y1 := year_ok (nth l k) d ⟨f1.1, fy.1.1⟩
    have e1 := any_take (p := fun f : Fl => decide (f.day < d)) hk
    have e2 := any_take (p := lateB L d) hk
    rw [g2, Bool.false_or] at e1
    by_cases hd : (nth l k).day < d
    · rw [if_pos hd] at y1
      generalize (l.take k).any (lateB L d) = B at *
      repeat' (first | ((first | apply U_ | (apply Ug_; exact rfl; exact rfl) | (apply Ugq_; exact rfl; exact rfl)); (first | exact QX.B TYok | exact QX.Len TYok | exact QX.Idx TYok | exact QX.Ext TYok | exact QX.Build TYok | exact QCd (y1)); exact rfl) | refine SX.Alloc TYok (h := ?_) | refine SX.Store TYok (h := ?_) | refine SC ?_ | refine SG ?_ | apply LexS.nil | (apply LexS.f; exact rfl; (first | (apply FreshV.alloc TYok; exact rfl; exact rfl; exact rfl; exact rfl) | (apply FreshV.lit TYok; (repeat (first | exact EvR.nil | apply EvR.cons Ev.auto)); exact rfl; exact rfl; exact rfl; exact rfl; exact rfl; exact rfl; exact rfl; exact rfl; exact rfl) | (apply FreshV.box; exact Ev.auto; exact rfl; exact rfl; exact rfl)); exact rfl; exact rfl; exact rfl) | (apply LexS.s; exact rfl; exact rfl; (apply StoreV.mk TYok; exact Ev.auto; exact Ev.auto; exact rfl; exact rfl; exact rfl; exact rfl; exact rfl)) | ((first | apply LexS.u | (apply LexS.g; exact rfl; exact rfl) | (apply LexS.gq; exact rfl; exact rfl)); (repeat (first | (apply NB.cons; exact rfl) | exact NB.nil rfl)); (first | exact QX.B TYok | exact QX.Len TYok | exact QX.Idx TYok | exact QX.Ext TYok | exact QX.Build TYok | exact QCd (y1)); exact rfl; exact rfl; exact rfl) | (refine W.drawS (id := 16) [0, 0, 3, 7, 15, 31, 0, 0, 0, 384, 896, 0, 4031, 8191, 16383, 32767, 65535, 131071, 131071, 0, 786431, 2097151] [[0], [11], [62, 63], [64], [65], [66], [2], [0], [11], [69, 70], [71], [1], [72, 73], [68, 74], [75], [67, 76], [77], [61], [61], [], [12, 78], [79]] [(20, (12, ?_)), (19, (12, ?_))] [(20, 12), (19, 12)] mixed (by kernel_rfl) rfl ?_; rotate_left 2) | (refine W.condA (ht := fun hb => ?_) (hf := fun hb => ?_) <;> (try simp at hb) <;> (try (exfalso; omega))))
      all_goals first
        | exact FinM.ret (ResM.cell rfl rfl rfl rfl zeroSubF (ResM.tmp rfl rfl PSub.rfl' ResM.nil))
        | (exfalso; omega)
        | trace_state
    · rw [if_neg hd] at y1
      rw [decide_eq_false hd] at e1
      have hy : 0 ≤ yrI d (nth l k) := by unfold yrI; omega
      have el : lateB L d (nth l k) = decide ((L.length : Int) ≤ yrI d (nth l k)) := rfl
      rw [el] at e2
      generalize yrI d (nth l k) = Y at *
      generalize (l.take k).any (lateB L d) = B at *
      repeat' (first | ((first | apply U_ | (apply Ug_; exact rfl; exact rfl) | (apply Ugq_; exact rfl; exact rfl)); (first | exact QX.B TYok | exact QX.Len TYok | exact QX.Idx TYok | exact QX.Ext TYok | exact QX.Build TYok | exact QCd (y1)); exact rfl) | refine SX.Alloc TYok (h := ?_) | refine SX.Store TYok (h := ?_) | refine SC ?_ | refine SG ?_ | apply LexS.nil | (apply LexS.f; exact rfl; (first | (apply FreshV.alloc TYok; exact rfl; exact rfl; exact rfl; exact rfl) | (apply FreshV.lit TYok; (repeat (first | exact EvR.nil | apply EvR.cons Ev.auto)); exact rfl; exact rfl; exact rfl; exact rfl; exact rfl; exact rfl; exact rfl; exact rfl; exact rfl) | (apply FreshV.box; exact Ev.auto; exact rfl; exact rfl; exact rfl)); exact rfl; exact rfl; exact rfl) | (apply LexS.s; exact rfl; exact rfl; (apply StoreV.mk TYok; exact Ev.auto; exact Ev.auto; exact rfl; exact rfl; exact rfl; exact rfl; exact rfl)) | ((first | apply LexS.u | (apply LexS.g; exact rfl; exact rfl) | (apply LexS.gq; exact rfl; exact rfl)); (repeat (first | (apply NB.cons; exact rfl) | exact NB.nil rfl)); (first | exact QX.B TYok | exact QX.Len TYok | exact QX.Idx TYok | exact QX.Ext TYok | exact QX.Build TYok | exact QCd (y1)); exact rfl; exact rfl; exact rfl) | (refine W.drawS (id := 16) [0, 0, 3, 7, 15, 31, 0, 0, 0, 384, 896, 0, 4031, 8191, 16383, 32767, 65535, 131071, 131071, 0, 786431, 2097151] [[0], [11], [62, 63], [64], [65], [66], [2], [0], [11], [69, 70], [71], [1], [72, 73], [68, 74], [75], [67, 76], [77], [61], [61], [], [12, 78], [79]] [(20, (12, ?_)), (19, (12, ?_))] [(20, 12), (19, 12)] mixed (by kernel_rfl) rfl ?_; rotate_left 2) | (refine W.condA (ht := fun hb => ?_) (hf := fun hb => ?_) <;> (try simp at hb) <;> (try (exfalso; omega))))
      all_goals first
        | (refine ⟨k + 1, ⟨by omega, e1⟩, ?_, by omega⟩; (try dsimp only); rw [e2]; exact Le.auto)
        | (exfalso; omega)
        | trace_state
theorem rvalue_late (h1 : flowsB l d = true) (h2 : FOk L) (he : (l.any fun f => decide (f.day < d)) = false) (hla : (l.any fun f => decide ((L.length : Int) ≤ yrI d f)) = true) : ACalls Try.prog 11 [slW l, cI d, slF L] (.tup [zF0, cI 3]) := by
  have p1 := flows_ok l d hl
  rw [h1] at p1
  have p2 := rfac_ok L hL hq true (by simp [h2])
  have fy := flowsB_yes h1
  refine ACalls.of_M TYok (qs := [zF0, cI 3]) [.cell 6 31, .tmp 7] 96 Try.func11 (by kernel_rfl) rfl rfl rfl fun G => ?_
  refine W.initA (hw := ?_)
  repeat' (first | ((first | apply U_ | (apply Ug_; exact rfl; exact rfl) | (apply Ugq_; exact rfl; exact rfl)); (first | exact QX.B TYok | exact QX.Len TYok | exact QX.Idx TYok | exact QX.Ext TYok | exact QX.Build TYok | exact QCd (p1) | exact QCd (p2)); exact rfl) | refine SX.Alloc TYok (h := ?_) | refine SX.Store TYok (h := ?_) | refine SC ?_ | refine SG ?_ | apply LexS.nil | (apply LexS.f; exact rfl; (first | (apply FreshV.alloc TYok; exact rfl; exact rfl; exact rfl; exact rfl) | (apply FreshV.lit TYok; (repeat (first | exact EvR.nil | apply EvR.cons Ev.auto)); exact rfl; exact rfl; exact rfl; exact rfl; exact rfl; exact rfl; exact rfl; exact rfl; exact rfl) | (apply FreshV.box; exact Ev.auto; exact rfl; exact rfl; exact rfl)); exact rfl; exact rfl; exact rfl) | (apply LexS.s; exact rfl; exact rfl; (apply StoreV.mk TYok; exact Ev.auto; exact Ev.auto; exact rfl; exact rfl; exact rfl; exact rfl; exact rfl)) | ((first | apply LexS.u | (apply LexS.g; exact rfl; exact rfl) | (apply LexS.gq; exact rfl; exact rfl)); (repeat (first | (apply NB.cons; exact rfl) | exact NB.nil rfl)); (first | exact QX.B TYok | exact QX.Len TYok | exact QX.Idx TYok | exact QX.Ext TYok | exact QX.Build TYok | exact QCd (p1) | exact QCd (p2)); exact rfl; exact rfl; exact rfl) | (refine W.drawS (id := 16) [0, 0, 3, 7, 15, 31, 0, 0, 0, 384, 896, 0, 4031, 8191, 16383, 32767, 65535, 131071, 131071, 0, 786431, 2097151] [[0], [11], [62, 63], [64], [65], [66], [2], [0], [11], [69, 70], [71], [1], [72, 73], [68, 74], [75], [67, 76], [77], [61], [61], [], [12, 78], [79]] [(20, (12, ?_)), (19, (12, ?_))] [(20, 12), (19, 12)] mixed (by kernel_rfl) rfl ?_; rotate_left 2) | (refine W.condA (ht := fun hb => ?_) (hf := fun hb => ?_) <;> (try simp at hb) <;> (try (exfalso; omega))))
  apply W.loopP (σ := Nat) 96 [0, 1, 2, 6] (fun k => k ≤ l.length) (fun k => [(9, vI k), (8, (True, .pv (cB ((l.take k).any (lateB L d)))))]) (fun k => [(6, ⟨31, 4, [[.int .i64 0, .slnil, .int .i64 0, .slnil]]⟩)]) (fun k => l.length - k) (0)
  case hp => repeat (first | exact Pick.nil | apply Pick.cons rfl)
  case h0 =>
    refine ⟨by simp, ?_⟩
    exact Le.auto
  case round =>
    rintro k g1
    apply W.norm (by repeat (first | exact App.nil | apply App.cons))
    by_cases hk : k < l.length
    case neg =>
      obtain rfl : k = l.length := by omega
      rw [List.take_length, show l.any (lateB L d) = true from hla]
      repeat' (first | ((first | apply U_ | (apply Ug_; exact rfl; exact rfl) | (apply Ugq_; exact rfl; exact rfl)); (first | exact QX.B TYok | exact QX.Len TYok | exact QX.Idx TYok | exact QX.Ext TYok | exact QX.Build TYok); exact rfl) | refine SX.Alloc TYok (h := ?_) | refine SX.Store TYok (h := ?_) | refine SC ?_ | refine SG ?_ | apply LexS.nil | (apply LexS.f; exact rfl; (first | (apply FreshV.alloc TYok; exact rfl; exact rfl; exact rfl; exact rfl) | (apply FreshV.lit TYok; (repeat (first | exact EvR.nil | apply EvR.cons Ev.auto)); exact rfl; exact rfl; exact rfl; exact rfl; exact rfl; exact rfl; exact rfl; exact rfl; exact rfl) | (apply FreshV.box; exact Ev.auto; exact rfl; exact rfl; exact rfl)); exact rfl; exact rfl; exact rfl) | (apply LexS.s; exact rfl; exact rfl; (apply StoreV.mk TYok; exact Ev.auto; exact Ev.auto; exact rfl; exact rfl; exact rfl; exact rfl; exact rfl)) | ((first | apply LexS.u | (apply LexS.g; exact rfl; exact rfl) | (apply LexS.gq; exact rfl; exact rfl)); (repeat (first | (apply NB.cons; exact rfl) | exact NB.nil rfl)); (first | exact QX.B TYok | exact QX.Len TYok | exact QX.Idx TYok | exact QX.Ext TYok | exact QX.Build TYok); exact rfl; exact rfl; exact rfl) | (refine W.drawS (id := 16) [0, 0, 3, 7, 15, 31, 0, 0, 0, 384, 896, 0, 4031, 8191, 16383, 32767, 65535, 131071, 131071, 0, 786431, 2097151] [[0], [11], [62, 63], [64], [65], [66], [2], [0], [11], [69, 70], [71], [1], [72, 73], [68, 74], [75], [67, 76], [77], [61], [61], [], [12, 78], [79]] [(20, (12, ?_)), (19, (12, ?_))] [(20, 12), (19, 12)] mixed (by kernel_rfl) rfl ?_; rotate_left 2) | (refine W.condA (ht := fun hb => ?_) (hf := fun hb => ?_) <;> (try simp at hb) <;> (try (exfalso; omega))))
      all_goals first
        | exact FinM.ret (ResM.cell rfl rfl rfl rfl zeroSubF (ResM.tmp rfl rfl PSub.rfl' ResM.nil))
        | trace_state
    have hm := nth_mem hk
    have f1 := fy.2 _ hm
    have y1 := year_ok (nth l k) d ⟨f1.1, fy.1.1⟩
    have e2 := any_take (p := lateB L d) hk
    have hd : ¬ (nth l k).day < d := by
      have := List.any_eq_false.1 he _ hm
      simpa using this
    rw [if_neg hd] at y1
    have hy : 0 ≤ yrI d (nth l k) := by unfold yrI; omega
    have el : lateB L d (nth l k) = decide ((L.length : Int) ≤ yrI d (nth l k)) := rfl
    rw [el] at e2
    generalize yrI d (nth l k) = Y at *
    generalize (l.take k).any (lateB L d) = B at *
    repeat' (first | ((first | apply U_ | (apply Ug_; exact rfl; exact rfl) | (apply Ugq_; exact rfl; exact rfl)); (first | exact QX.B TYok | exact QX.Len TYok | exact QX.Idx TYok | exact QX.Ext TYok | exact QX.Build TYok | exact QCd (y1)); exact rfl) | refine SX.Alloc TYok (h := ?_) | refine SX.Store TYok (h := ?_) | refine SC ?_ | refine SG ?_ | apply LexS.nil | (apply LexS.f; exact rfl; (first | (apply FreshV.alloc TYok; exact rfl; exact rfl; exact rfl; exact rfl) | (apply FreshV.lit TYok; (repeat (first | exact EvR.nil | apply EvR.cons Ev.auto)); exact rfl; exact rfl; exact rfl; exact rfl; exact rfl; exact rfl; exact rfl; exact rfl; exact rfl) | (apply FreshV.box; exact Ev.auto; exact rfl; exact rfl; exact rfl)); exact rfl; exact rfl; exact rfl) | (apply LexS.s; exact rfl; exact rfl; (apply StoreV.mk TYok; exact Ev.auto; exact Ev.auto; exact rfl; exact rfl; exact rfl; exact rfl; exact rfl)) | ((first | apply LexS.u | (apply LexS.g; exact rfl; exact rfl) | (apply LexS.gq; exact rfl; exact rfl)); (repeat (first | (apply NB.cons; exact rfl) | exact NB.nil rfl)); (first | exact QX.B TYok | exact QX.Len TYok | exact QX.Idx TYok | exact QX.Ext TYok | exact QX.Build TYok | exact QCd (y1)); exact rfl; exact rfl; exact rfl) | (refine W.drawS (id := 16) [0, 0, 3, 7, 15, 31, 0, 0, 0, 384, 896, 0, 4031, 8191, 16383, 32767, 65535, 131071, 131071, 0, 786431, 2097151] [[0], [11], [62, 63], [64], [65], [66], [2], [0], [11], [69, 70], [71], [1], [72, 73], [68, 74], [75], [67, 76], [77], [61], [61], [], [12, 78], [79]] [(20, (12, ?_)), (19, (12, ?_))] [(20, 12), (19, 12)] mixed (by kernel_rfl) rfl ?_; rotate_left 2) | (refine W.condA (ht := fun hb => ?_) (hf := fun hb => ?_) <;> (try simp at hb) <;> (try (exfalso; omega))))
    all_goals first
      | (refine ⟨k + 1, by omega, ?_, by omega⟩; (try dsimp only); rw [e2]; exact Le.auto)
      | (exfalso; omega)
      | trace_state
end
section
variable (l : List Fl) (d : Int) (L : List Fq) (hv : VIn l d L) (hq : ∀ q ∈ L, FqOk q)
include hv hq
theorem rvalue_walk (n : Nat) (hn : n ≤ l.length) (hu : ∀ j, j < n → addOk (vsum L d l j) (term L d (nth l j))) (e : Int) (V : PV) (he : (e = 0 ∧ n = l.length ∧ V = zF (vsum L d l n)) ∨ (e = 6 ∧ n < l.length ∧ V = zF0 ∧ ¬ addOk (vsum L d l n) (term L d (nth l n)))) :
    ACalls Try.prog 11 [slW l, cI d, slF L] (.tup [V, cI e]) := by
  have fy := flowsB_yes hv.fl
  have hl : l.length ≤ 9223372036854775807 := by omega
  have hL : L.length ≤ 9223372036854775807 := by have := hv.fk.2; omega
  have p1 := flows_ok l d hl
  rw [hv.fl] at p1
  have p2 := rfac_ok L hL hq true (by simp [hv.fk])
  have w0 := qwhole_ok 0 (by unfold i64B; omega)
  have okS := vsum_ok hv hn hu
  have hyr : ∀ k, k < l.length → ACalls Try.prog 33 [aW (nth l k), cI d] (.pv (cI (yrI d (nth l k)))) := fun k hk => by
    have hm := nth_mem hk
    have y1 := year_ok (nth l k) d ⟨(fy.2 _ hm).1, fy.1.1⟩
    rw [if_neg (by have := hv.early _ hm; omega)] at y1
    exact y1
  have hla : ∀ k, k ≤ l.length → (l.take k).any (lateB L d) = false := fun k hk => by
    refine List.any_eq_false.2 fun x hx => ?_
    have := hv.late x (List.mem_of_mem_take hx)
    unfold lateB
    simp only [decide_eq_true_iff]
    omega
  refine ACalls.of_M TYok (qs := [V, cI e]) [.cell 6 31, .tmp 7] 96 Try.func11 (by kernel_rfl) rfl rfl rfl fun G => ?_
  refine W.initA (hw := ?_)
  repeat' (first | ((first | apply U_ | (apply Ug_; exact rfl; exact rfl) | (apply Ugq_; exact rfl; exact rfl)); (first | exact QX.B TYok | exact QX.Len TYok | exact QX.Idx TYok | exact QX.Ext TYok | exact QX.Build TYok | exact QCd (p1) | exact QCd (p2)); exact rfl) | refine SX.Alloc TYok (h := ?_) | refine SX.Store TYok (h := ?_) | refine SC ?_ | refine SG ?_ | apply LexS.nil | (apply LexS.f; exact rfl; (first | (apply FreshV.alloc TYok; exact rfl; exact rfl; exact rfl; exact rfl) | (apply FreshV.lit TYok; (repeat (first | exact EvR.nil | apply EvR.cons Ev.auto)); exact rfl; exact rfl; exact rfl; exact rfl; exact rfl; exact rfl; exact rfl; exact rfl; exact rfl) | (apply FreshV.box; exact Ev.auto; exact rfl; exact rfl; exact rfl)); exact rfl; exact rfl; exact rfl) | (apply LexS.s; exact rfl; exact rfl; (apply StoreV.mk TYok; exact Ev.auto; exact Ev.auto; exact rfl; exact rfl; exact rfl; exact rfl; exact rfl)) | ((first | apply LexS.u | (apply LexS.g; exact rfl; exact rfl) | (apply LexS.gq; exact rfl; exact rfl)); (repeat (first | (apply NB.cons; exact rfl) | exact NB.nil rfl)); (first | exact QX.B TYok | exact QX.Len TYok | exact QX.Idx TYok | exact QX.Ext TYok | exact QX.Build TYok | exact QCd (p1) | exact QCd (p2)); exact rfl; exact rfl; exact rfl) | (refine W.drawS (id := 16) [0, 0, 3, 7, 15, 31, 0, 0, 0, 384, 896, 0, 4031, 8191, 16383, 32767, 65535, 131071, 131071, 0, 786431, 2097151] [[0], [11], [62, 63], [64], [65], [66], [2], [0], [11], [69, 70], [71], [1], [72, 73], [68, 74], [75], [67, 76], [77], [61], [61], [], [12, 78], [79]] [(20, (12, ?_)), (19, (12, ?_))] [(20, 12), (19, 12)] mixed (by kernel_rfl) rfl ?_; rotate_left 2) | (refine W.condA (ht := fun hb => ?_) (hf := fun hb => ?_) <;> (try simp at hb) <;> (try (exfalso; omega))))
  apply W.loopP (σ := Nat) 96 [0, 1, 2, 6] (fun k => k ≤ l.length) (fun k => [(9, vI k), (8, (True, .pv (cB false)))]) (fun k => [(6, ⟨31, 4, [[.int .i64 0, .slnil, .int .i64 0, .slnil]]⟩)]) (fun k => l.length - k) (0)
  case hp => repeat (first | exact Pick.nil | apply Pick.cons rfl)
  case h0 =>
    refine ⟨by simp, ?_⟩
    exact Le.auto
  case round =>
    rintro k g1
    apply W.norm (by repeat (first | exact App.nil | apply App.cons))
    by_cases hk : k < l.length
    · have y1 := hyr k hk
      obtain ⟨hy, _, _⟩ := hv.term_bd hk
      have hlt : decide ((L.length : Int) ≤ yrI d (nth l k)) = false := decide_eq_false (by omega)
      generalize yrI d (nth l k) = Y at *
      repeat' (first | ((first | apply U_ | (apply Ug_; exact rfl; exact rfl) | (apply Ugq_; exact rfl; exact rfl)); (first | exact QX.B TYok | exact QX.Len TYok | exact QX.Idx TYok | exact QX.Ext TYok | exact QX.Build TYok | exact QCd (y1)); exact rfl) | refine SX.Alloc TYok (h := ?_) | refine SX.Store TYok (h := ?_) | refine SC ?_ | refine SG ?_ | apply LexS.nil | (apply LexS.f; exact rfl; (first | (apply FreshV.alloc TYok; exact rfl; exact rfl; exact rfl; exact rfl) | (apply FreshV.lit TYok; (repeat (first | exact EvR.nil | apply EvR.cons Ev.auto)); exact rfl; exact rfl; exact rfl; exact rfl; exact rfl; exact rfl; exact rfl; exact rfl; exact rfl) | (apply FreshV.box; exact Ev.auto; exact rfl; exact rfl; exact rfl)); exact rfl; exact rfl; exact rfl) | (apply LexS.s; exact rfl; exact rfl; (apply StoreV.mk TYok; exact Ev.auto; exact Ev.auto; exact rfl; exact rfl; exact rfl; exact rfl; exact rfl)) | ((first | apply LexS.u | (apply LexS.g; exact rfl; exact rfl) | (apply LexS.gq; exact rfl; exact rfl)); (repeat (first | (apply NB.cons; exact rfl) | exact NB.nil rfl)); (first | exact QX.B TYok | exact QX.Len TYok | exact QX.Idx TYok | exact QX.Ext TYok | exact QX.Build TYok | exact QCd (y1)); exact rfl; exact rfl; exact rfl) | (refine W.drawS (id := 16) [0, 0, 3, 7, 15, 31, 0, 0, 0, 384, 896, 0, 4031, 8191, 16383, 32767, 65535, 131071, 131071, 0, 786431, 2097151] [[0], [11], [62, 63], [64], [65], [66], [2], [0], [11], [69, 70], [71], [1], [72, 73], [68, 74], [75], [67, 76], [77], [61], [61], [], [12, 78], [79]] [(20, (12, ?_)), (19, (12, ?_))] [(20, 12), (19, 12)] mixed (by kernel_rfl) rfl ?_; rotate_left 2) | (refine W.condA (ht := fun hb => ?_) (hf := fun hb => ?_) <;> (try simp at hb) <;> (try (exfalso; omega))))
      all_goals first
        | (refine ⟨k + 1, by omega, ?_, by omega⟩
           refine Le.mkR rfl rfl ?_ ?_ ?_ rfl
           · refine SubR.p rfl rfl ?_
             refine SubR.p rfl ?_ SubR.nil
             show AV.pv (cB (false || decide ((L.length : Int) ≤ Y))) = AV.pv (cB false)
             rw [hlt]; rfl
           · repeat (first | exact SubR.nil | apply SubR.p rfl rfl | apply SubR.s rfl rfl rfl | apply SubR.a rfl rfl rfl)
           · repeat (first | exact SubBR.nil | apply SubBR.cons rfl rfl))
        | (exfalso; omega)
        | trace_state
    obtain rfl : k = l.length := by omega
    repeat' (first | ((first | apply U_ | (apply Ug_; exact rfl; exact rfl) | (apply Ugq_; exact rfl; exact rfl)); (first | exact QX.B TYok | exact QX.Len TYok | exact QX.Idx TYok | exact QX.Ext TYok | exact QX.Build TYok | exact QCd (w0)); exact rfl) | refine SX.Alloc TYok (h := ?_) | refine SX.Store TYok (h := ?_) | refine SC ?_ | refine SG ?_ | apply LexS.nil | (apply LexS.f; exact rfl; (first | (apply FreshV.alloc TYok; exact rfl; exact rfl; exact rfl; exact rfl) | (apply FreshV.lit TYok; (repeat (first | exact EvR.nil | apply EvR.cons Ev.auto)); exact rfl; exact rfl; exact rfl; exact rfl; exact rfl; exact rfl; exact rfl; exact rfl; exact rfl) | (apply FreshV.box; exact Ev.auto; exact rfl; exact rfl; exact rfl)); exact rfl; exact rfl; exact rfl) | (apply LexS.s; exact rfl; exact rfl; (apply StoreV.mk TYok; exact Ev.auto; exact Ev.auto; exact rfl; exact rfl; exact rfl; exact rfl; exact rfl)) | ((first | apply LexS.u | (apply LexS.g; exact rfl; exact rfl) | (apply LexS.gq; exact rfl; exact rfl)); (repeat (first | (apply NB.cons; exact rfl) | exact NB.nil rfl)); (first | exact QX.B TYok | exact QX.Len TYok | exact QX.Idx TYok | exact QX.Ext TYok | exact QX.Build TYok | exact QCd (w0)); exact rfl; exact rfl; exact rfl) | (refine W.drawS (id := 16) [0, 0, 3, 7, 15, 31, 0, 0, 0, 384, 896, 0, 4031, 8191, 16383, 32767, 65535, 131071, 131071, 0, 786431, 2097151] [[0], [11], [62, 63], [64], [65], [66], [2], [0], [11], [69, 70], [71], [1], [72, 73], [68, 74], [75], [67, 76], [77], [61], [61], [], [12, 78], [79]] [(20, (12, ?_)), (19, (12, ?_))] [(20, 12), (19, 12)] mixed (by kernel_rfl) rfl ?_; rotate_left 2) | (refine W.condA (ht := fun hb => ?_) (hf := fun hb => ?_) <;> (try simp at hb) <;> (try (exfalso; omega))))
    apply W.loopP (σ := Nat) 96 [0, 1, 2, 6, 10] (fun k => k ≤ n) (fun k => [(11, vI k)]) (fun k => [(6, ⟨31, 4, [[.int .i64 0, .slnil, .int .i64 0, .slnil]]⟩), (10, ⟨31, 4, [encQ (vsum L d l k)]⟩)]) (fun k => n - k) (0)
    case hp => repeat (first | exact Pick.nil | apply Pick.cons rfl)
    case h0 =>
      refine ⟨by omega, ?_⟩
      exact Le.auto
    case round =>
      rintro k gk
      apply W.norm (by repeat (first | exact App.nil | apply App.cons))
      by_cases hk : k < l.length
      case neg =>
        obtain rfl : k = n := by omega
        rcases he with ⟨rfl, rfl, rfl⟩ | ⟨rfl, h3, rfl, hno⟩
        · generalize vsum L d l l.length = A at *
          repeat' (first | ((first | apply U_ | (apply Ug_; exact rfl; exact rfl) | (apply Ugq_; exact rfl; exact rfl)); (first | exact QX.B TYok | exact QX.Len TYok | exact QX.Idx TYok | exact QX.Ext TYok | exact QX.Build TYok); exact rfl) | refine SX.Alloc TYok (h := ?_) | refine SX.Store TYok (h := ?_) | refine SC ?_ | refine SG ?_ | apply LexS.nil | (apply LexS.f; exact rfl; (first | (apply FreshV.alloc TYok; exact rfl; exact rfl; exact rfl; exact rfl) | (apply FreshV.lit TYok; (repeat (first | exact EvR.nil | apply EvR.cons Ev.auto)); exact rfl; exact rfl; exact rfl; exact rfl; exact rfl; exact rfl; exact rfl; exact rfl; exact rfl) | (apply FreshV.box; exact Ev.auto; exact rfl; exact rfl; exact rfl)); exact rfl; exact rfl; exact rfl) | (apply LexS.s; exact rfl; exact rfl; (apply StoreV.mk TYok; exact Ev.auto; exact Ev.auto; exact rfl; exact rfl; exact rfl; exact rfl; exact rfl)) | ((first | apply LexS.u | (apply LexS.g; exact rfl; exact rfl) | (apply LexS.gq; exact rfl; exact rfl)); (repeat (first | (apply NB.cons; exact rfl) | exact NB.nil rfl)); (first | exact QX.B TYok | exact QX.Len TYok | exact QX.Idx TYok | exact QX.Ext TYok | exact QX.Build TYok); exact rfl; exact rfl; exact rfl) | (refine W.drawS (id := 16) [0, 0, 3, 7, 15, 31, 0, 0, 0, 384, 896, 0, 4031, 8191, 16383, 32767, 65535, 131071, 131071, 0, 786431, 2097151] [[0], [11], [62, 63], [64], [65], [66], [2], [0], [11], [69, 70], [71], [1], [72, 73], [68, 74], [75], [67, 76], [77], [61], [61], [], [12, 78], [79]] [(20, (12, ?_)), (19, (12, ?_))] [(20, 12), (19, 12)] mixed (by kernel_rfl) rfl ?_; rotate_left 2) | (refine W.condA (ht := fun hb => ?_) (hf := fun hb => ?_) <;> (try simp at hb) <;> (try (exfalso; omega))))
          all_goals first
            | exact FinM.ret ResM.auto
            | (exfalso; omega)
            | trace_state
        · exact absurd h3 hk
      obtain ⟨hy, tb, tm⟩ := hv.term_bd hk
      have hm := nth_mem hk
      have f1 := fy.2 _ hm
      have y1 := hyr k hk
      have w1 := qwhole_ok (nth l k).amt (by unfold i64B; omega)
      have oy := hv.fk.1 (yrI d (nth l k)).toNat (by omega)
      obtain ⟨ov, ev⟩ := Fq.of_val oy.1
      have m1 := qmul_yes _ _ (okF_int (n := (nth l k).amt) (by unfold i64B; omega)) ov tm
      rw [show zF (nth L (yrI d (nth l k)).toNat).val = fqV (nth L (yrI d (nth l k)).toNat) from (congrArg fqV ev).symm] at m1
      have et : ((nth l k).amt : Rat) * (nth L (yrI d (nth l k)).toNat).val = term L d (nth l k) := rfl
      rw [et] at m1
      have oS := okS k gk
      have oT := bd_ok tb (by omega)
      clear et tm tb ev ov oy
      by_cases hk2 : k < n
      · have a1 := qadd_yes _ _ oS oT (hu k hk2)
        have e1 : vsum L d l (k + 1) = vsum L d l k + term L d (nth l k) := rfl
        rw [← e1] at a1
        clear e1
        generalize hS : vsum L d l k = S at *
        generalize hT : term L d (nth l k) = T at *
        generalize hB : vsum L d l (k + 1) = B at *
        generalize yrI d (nth l k) = Y at *
        repeat' (first | ((first | apply U_ | (apply Ug_; exact rfl; exact rfl) | (apply Ugq_; exact rfl; exact rfl)); (first | exact QX.B TYok | exact QX.Len TYok | exact QX.Idx TYok | exact QX.Ext TYok | exact QX.Build TYok | exact QCd (y1) | exact QCd (w1) | exact QCd (m1) | exact QCd (a1)); exact rfl) | refine SX.Alloc TYok (h := ?_) | refine SX.Store TYok (h := ?_) | refine SC ?_ | refine SG ?_ | apply LexS.nil | (apply LexS.f; exact rfl; (first | (apply FreshV.alloc TYok; exact rfl; exact rfl; exact rfl; exact rfl) | (apply FreshV.lit TYok; (repeat (first | exact EvR.nil | apply EvR.cons Ev.auto)); exact rfl; exact rfl; exact rfl; exact rfl; exact rfl; exact rfl; exact rfl; exact rfl; exact rfl) | (apply FreshV.box; exact Ev.auto; exact rfl; exact rfl; exact rfl)); exact rfl; exact rfl; exact rfl) | (apply LexS.s; exact rfl; exact rfl; (apply StoreV.mk TYok; exact Ev.auto; exact Ev.auto; exact rfl; exact rfl; exact rfl; exact rfl; exact rfl)) | ((first | apply LexS.u | (apply LexS.g; exact rfl; exact rfl) | (apply LexS.gq; exact rfl; exact rfl)); (repeat (first | (apply NB.cons; exact rfl) | exact NB.nil rfl)); (first | exact QX.B TYok | exact QX.Len TYok | exact QX.Idx TYok | exact QX.Ext TYok | exact QX.Build TYok | exact QCd (y1) | exact QCd (w1) | exact QCd (m1) | exact QCd (a1)); exact rfl; exact rfl; exact rfl) | (refine W.drawS (id := 16) [0, 0, 3, 7, 15, 31, 0, 0, 0, 384, 896, 0, 4031, 8191, 16383, 32767, 65535, 131071, 131071, 0, 786431, 2097151] [[0], [11], [62, 63], [64], [65], [66], [2], [0], [11], [69, 70], [71], [1], [72, 73], [68, 74], [75], [67, 76], [77], [61], [61], [], [12, 78], [79]] [(20, (12, ?_)), (19, (12, ?_))] [(20, 12), (19, 12)] mixed (by kernel_rfl) rfl ?_; rotate_left 2) | (refine W.condA (ht := fun hb => ?_) (hf := fun hb => ?_) <;> (try simp at hb) <;> (try (exfalso; omega))))
        all_goals first
          | (refine ⟨k + 1, by omega, ?_, by omega⟩; (try dsimp only); rw [hB]; exact Le.auto)
          | trace_state
      · obtain rfl : k = n := by omega
        rcases he with ⟨rfl, h3, rfl⟩ | ⟨rfl, h3, rfl, hno⟩
        · omega
        · have a1 := qadd_no _ _ oS oT hno
          generalize hS : vsum L d l k = S at *
          generalize hT : term L d (nth l k) = T at *
          generalize yrI d (nth l k) = Y at *
          repeat' (first | ((first | apply U_ | (apply Ug_; exact rfl; exact rfl) | (apply Ugq_; exact rfl; exact rfl)); (first | exact QX.B TYok | exact QX.Len TYok | exact QX.Idx TYok | exact QX.Ext TYok | exact QX.Build TYok | exact QCd (y1) | exact QCd (w1) | exact QCd (m1) | exact QCd (a1)); exact rfl) | refine SX.Alloc TYok (h := ?_) | refine SX.Store TYok (h := ?_) | refine SC ?_ | refine SG ?_ | apply LexS.nil | (apply LexS.f; exact rfl; (first | (apply FreshV.alloc TYok; exact rfl; exact rfl; exact rfl; exact rfl) | (apply FreshV.lit TYok; (repeat (first | exact EvR.nil | apply EvR.cons Ev.auto)); exact rfl; exact rfl; exact rfl; exact rfl; exact rfl; exact rfl; exact rfl; exact rfl; exact rfl) | (apply FreshV.box; exact Ev.auto; exact rfl; exact rfl; exact rfl)); exact rfl; exact rfl; exact rfl) | (apply LexS.s; exact rfl; exact rfl; (apply StoreV.mk TYok; exact Ev.auto; exact Ev.auto; exact rfl; exact rfl; exact rfl; exact rfl; exact rfl)) | ((first | apply LexS.u | (apply LexS.g; exact rfl; exact rfl) | (apply LexS.gq; exact rfl; exact rfl)); (repeat (first | (apply NB.cons; exact rfl) | exact NB.nil rfl)); (first | exact QX.B TYok | exact QX.Len TYok | exact QX.Idx TYok | exact QX.Ext TYok | exact QX.Build TYok | exact QCd (y1) | exact QCd (w1) | exact QCd (m1) | exact QCd (a1)); exact rfl; exact rfl; exact rfl) | (refine W.drawS (id := 16) [0, 0, 3, 7, 15, 31, 0, 0, 0, 384, 896, 0, 4031, 8191, 16383, 32767, 65535, 131071, 131071, 0, 786431, 2097151] [[0], [11], [62, 63], [64], [65], [66], [2], [0], [11], [69, 70], [71], [1], [72, 73], [68, 74], [75], [67, 76], [77], [61], [61], [], [12, 78], [79]] [(20, (12, ?_)), (19, (12, ?_))] [(20, 12), (19, 12)] mixed (by kernel_rfl) rfl ?_; rotate_left 2) | (refine W.condA (ht := fun hb => ?_) (hf := fun hb => ?_) <;> (try simp at hb) <;> (try (exfalso; omega))))
          all_goals first
            | exact FinM.ret (ResM.cell rfl rfl rfl rfl zeroSubF (ResM.tmp rfl rfl PSub.rfl' ResM.nil))
            | trace_state
end
end
end Go.Proofs.Ytgpcmgjdkefdjaa
end
section
set_option linter.unusedVariables false
set_option linter.unusedSimpArgs false
set_option maxHeartbeats 8000000
namespace Go.Proofs.Ytgpcmgjdkefdjaa
open Lf Go
attribute [local irreducible] PureOp EffOp Ev RG W Then InBlock Lf.Fin nth App InitE Pick EvL EvD EvP EvR ResL Lf.Lex SubR SubBR RA RAll EvC FinO FinM ResM ResD FinS val pw digs trimL
section
theorem least_ex {p : Nat → Prop} : ∀ n, p n → ∃ j, p j ∧ ∀ i, i < j → ¬ p i := by
  intro n
  induction n using Nat.strongRecOn with
  | ind n ih =>
    intro h
    by_cases k : ∃ i, i < n ∧ p i
    · obtain ⟨i, h1, h2⟩ := k
      exact ih i h1 h2
    · exact ⟨n, h, fun i hi hp => k ⟨i, hi, hp⟩⟩
def addsOk (L : List Fq) (d : Int) (l : List Fl) : Prop := ∀ j, j < l.length → addOk (vsum L d l j) (term L d (nth l j))
open Classical in
noncomputable def valE (l : List Fl) (d : Int) (L : List Fq) : Int :=
  if ¬ (flowsB l d = true ∧ FOk L) then 1 else if (l.any fun f => decide (f.day < d)) = true then 20 else if (l.any fun f => decide ((L.length : Int) ≤ yrI d f)) = true then 3 else if addsOk L d l then 0 else 6
open Classical in
noncomputable def valV (l : List Fl) (d : Int) (L : List Fq) : PV := if valE l d L = 0 then zF (vsum L d l l.length) else zF0
theorem VIn.mk' {l : List Fl} {d : Int} {L : List Fq} (h : flowsB l d = true ∧ FOk L) (hf : fewF L) (h1 : ¬ (l.any fun f => decide (f.day < d)) = true) (h2 : ¬ (l.any fun f => decide ((L.length : Int) ≤ yrI d f)) = true) : VIn l d L := by
  rw [Bool.not_eq_true] at h1 h2
  refine ⟨h.1, h.2, hf, fun f hm => ?_, fun f hm => ?_⟩
  · have := List.any_eq_false.1 h1 f hm
    simp only [decide_eq_true_iff] at this
    omega
  · have := List.any_eq_false.1 h2 f hm
    simp only [decide_eq_true_iff] at this
    omega
theorem valE_zero {l : List Fl} {d : Int} {L : List Fq} (hf : fewF L) (h : valE l d L = 0) : VIn l d L ∧ addsOk L d l ∧ okF (vsum L d l l.length) := by
  unfold valE at h
  split at h
  · cases h
  · rename_i h1
    split at h
    · cases h
    · rename_i h2
      split at h
      · cases h
      · rename_i h3
        split at h
        · rename_i h4
          have hv := VIn.mk' (Classical.not_not.1 h1) hf h2 h3
          exact ⟨hv, h4, vsum_ok hv (Nat.le_refl _) h4 _ (Nat.le_refl _)⟩
        · cases h
theorem valE_of {l : List Fl} {d : Int} {L : List Fq} (hv : VIn l d L) : valE l d L = 0 ∨ valE l d L = 6 := by
  unfold valE
  rw [if_neg (fun q => q ⟨hv.fl, hv.fk⟩), if_neg, if_neg]
  · split
    · exact .inl rfl
    · exact .inr rfl
  · rw [Bool.not_eq_true]
    exact List.any_eq_false.2 fun x hx => by have := hv.late x hx; simp only [decide_eq_true_iff]; omega
  · rw [Bool.not_eq_true]
    exact List.any_eq_false.2 fun x hx => by have := hv.early x hx; simp only [decide_eq_true_iff]; omega
theorem valE_ok {l : List Fl} {d : Int} {L : List Fq} (hv : VIn l d L) (ha : addsOk L d l) : valE l d L = 0 := by
  unfold valE
  rw [if_neg (fun q => q ⟨hv.fl, hv.fk⟩), if_neg, if_neg, if_pos ha]
  · rw [Bool.not_eq_true]
    exact List.any_eq_false.2 fun x hx => by have := hv.late x hx; simp only [decide_eq_true_iff]; omega
  · rw [Bool.not_eq_true]
    exact List.any_eq_false.2 fun x hx => by have := hv.early x hx; simp only [decide_eq_true_iff]; omega
theorem value_both (l : List Fl) (d : Int) (L : List Fq) (hl : l.length ≤ 9223372036854775807) (hL : L.length ≤ 9223372036854775807) (hq : ∀ q ∈ L, FqOk q) (hf : fewF L) :
    ACalls Try.prog 10 [slW l, cI d, slF L] (.tup [valV l d L, cI (valE l d L)]) ∧ ACalls Try.prog 11 [slW l, cI d, slF L] (.tup [valV l d L, cI (valE l d L)]) := by
  have hV : valE l d L ≠ 0 → valV l d L = zF0 := fun h => if_neg h
  by_cases h1 : flowsB l d = true ∧ FOk L
  case neg =>
    have e : valE l d L = 1 := if_pos h1
    rw [hV (by rw [e]; decide), e]
    exact ⟨value_arg l d L hl hL hq h1, rvalue_arg l d L hl hL hq h1⟩
  by_cases h2 : (l.any fun f => decide (f.day < d)) = true
  · have e : valE l d L = 20 := by unfold valE; rw [if_neg (fun q => q h1), if_pos h2]
    rw [hV (by rw [e]; decide), e]
    exact ⟨value_early l d L hl hL hq h1.1 h1.2 h2, rvalue_early l d L hl hL hq h1.1 h1.2 h2⟩
  have h2' := Bool.not_eq_true _ ▸ h2
  by_cases h3 : (l.any fun f => decide ((L.length : Int) ≤ yrI d f)) = true
  · have e : valE l d L = 3 := by unfold valE; rw [if_neg (fun q => q h1), if_neg h2, if_pos h3]
    rw [hV (by rw [e]; decide), e]
    exact ⟨value_late l d L hl hL hq h1.1 h1.2 (by simpa using h2) h3, rvalue_late l d L hl hL hq h1.1 h1.2 (by simpa using h2) h3⟩
  have hv := VIn.mk' h1 hf h2 h3
  by_cases h4 : addsOk L d l
  · have e := valE_ok hv h4
    have eV : valV l d L = zF (vsum L d l l.length) := if_pos e
    rw [e, eV]
    exact ⟨value_walk l d L hv hq l.length (Nat.le_refl _) h4 0 _ (.inl ⟨rfl, rfl, rfl⟩), rvalue_walk l d L hv hq l.length (Nat.le_refl _) h4 0 _ (.inl ⟨rfl, rfl, rfl⟩)⟩
  · have e : valE l d L = 6 := by
      rcases valE_of hv with q | q
      · exact absurd (valE_zero hf q).2.1 h4
      · exact q
    obtain ⟨j, hj⟩ : ∃ j, j < l.length ∧ ¬ addOk (vsum L d l j) (term L d (nth l j)) := by
      rcases Classical.em (∃ j, j < l.length ∧ ¬ addOk (vsum L d l j) (term L d (nth l j))) with w | w
      · exact w
      · exact absurd (fun j hj => Classical.not_not.1 fun q => w ⟨j, hj, q⟩) h4
    obtain ⟨n, ⟨n1, n2⟩, n3⟩ := least_ex (p := fun j => j < l.length ∧ ¬ addOk (vsum L d l j) (term L d (nth l j))) j hj
    have hu : ∀ j, j < n → addOk (vsum L d l j) (term L d (nth l j)) := fun j hj => Classical.not_not.1 fun q => n3 j hj ⟨by omega, q⟩
    rw [hV (by rw [e]; decide), e]
    exact ⟨value_walk l d L hv hq n (by omega) hu 6 _ (.inr ⟨rfl, n1, rfl, n2⟩), rvalue_walk l d L hv hq n (by omega) hu 6 _ (.inr ⟨rfl, n1, rfl, n2⟩)⟩
/-- what both return is a fraction's form of few digits -/
theorem valV_form (l : List Fl) (d : Int) (L : List Fq) (hf : fewF L) : ∃ s a s' a', valV l d L = fB s a s' a' ∧ a.length ≤ 1000000 ∧ a'.length ≤ 1000000 := by
  by_cases h : valE l d L = 0
  · have o := (valE_zero hf h).2.2
    exact ⟨_, _, _, _, if_pos h, by have := num_len o.1; omega, by have := num_len o.2; omega⟩
  · exact ⟨0, [], 0, [], if_neg h, by decide, by decide⟩
theorem same_any (s : Int) (l : List Int) (s' : Int) (l' : List Int) (hl : l.length ≤ 1000000) (hl' : l'.length ≤ 1000000) : ACalls Try.prog 14 [fB s l s' l', fB s l s' l'] (.pv (cB true)) := by
  have s1 := sameBig_ok s s l l hl hl
  have s2 := sameBig_ok s' s' l' l' hl' hl'
  rw [decide_eq_true rfl, decide_eq_true rfl, Bool.and_self] at s1 s2
  refine ACalls.of_W (qs := [cB true]) [4] 17 Try.func14 (by kernel_rfl) rfl rfl rfl fun G => ?_
  refine W.initA (hw := ?_)
  repeat' (first | ((first | apply U_ | (apply Ug_; exact rfl; exact rfl) | (apply Ugq_; exact rfl; exact rfl)); (first | exact QX.B TYok | exact QCd (s1) | exact QCd (s2)); exact rfl) | refine SX.Box TYok (h := ?_) | refine SC ?_ | refine SG ?_ | (refine W.condA (ht := fun hb => ?_) (hf := fun hb => ?_) <;> (try simp at hb) <;> (try (exfalso; omega))))
  all_goals exact Fin.ret ResL.auto
theorem fl_spec (r : Rat) : ((quoZ r.num r.den : Int) : Rat) ≤ r ∧ r < ((quoZ r.num r.den + 1 : Int) : Rat) := by
  have hd := den_pos r
  have h1 := quo_rem r.num r.den
  have h2 := (rem_rng (x := r.num) (y := r.den) (by omega)).1 hd
  generalize quoZ r.num r.den = q at *
  generalize remZ r.num r.den = m at *
  constructor
  · rw [Rat.le_iff]
    show q * (r.den : Int) ≤ r.num * 1
    rw [Int.mul_one, h1, Int.mul_comm q]
    omega
  · rw [Rat.lt_iff]
    show r.num * 1 < (q + 1) * (r.den : Int)
    rw [Int.mul_one, h1, Int.add_mul, Int.mul_comm q]
    omega
def ceilR (f : Rat) : Int := if ((quoZ f.num f.den : Int) : Rat) < f then quoZ f.num f.den + 1 else quoZ f.num f.den
def goodB (f : Rat) : Bool := decide (0 ≤ ceilR f) && decide (ceilR f ≤ 1000000000000000)
theorem ceil_spec (f : Rat) : f ≤ ((ceilR f : Int) : Rat) ∧ ((ceilR f - 1 : Int) : Rat) < f := by
  obtain ⟨h1, h2⟩ := fl_spec f
  unfold ceilR
  generalize quoZ f.num f.den = q at *
  split
  · rename_i h
    exact ⟨Rat.le_of_lt h2, by rw [show q + 1 - 1 = q by omega]; exact h⟩
  · rename_i h
    have e : (q : Rat) = f := by grind
    refine ⟨by grind, ?_⟩
    rw [Rat.intCast_sub, e]
    have : ((1 : Int) : Rat) = 1 := rfl
    rw [this]
    grind
attribute [local irreducible] sgn mag gcdZ quoZ remZ fullZ fullE
theorem good_in {f : Rat} (h : goodB f = true) : i64B (quoZ f.num f.den) ∧ quoZ f.num f.den < 9223372036854775807 ∧ (0 ≤ ceilR f ∧ ceilR f ≤ 1000000000000000) := by
  unfold goodB at h
  rw [Bool.and_eq_true, decide_eq_true_iff, decide_eq_true_iff] at h
  have h2 := h
  unfold ceilR at h2
  unfold i64B
  split at h2 <;> omega
theorem up_ok (f : Rat) (o : okF f) : ∃ n, ACalls Try.prog 36 [zF f] (.tup [cI n, cB (goodB f)]) ∧ (goodB f = true → n = ceilR f) := by
  have f1 := floor_ok f o
  have oz := okZ_quo (x := f.num) o.1 (den_ne f)
  have i1 := intZ_ok _ oz
  have hin := good_in (f := f)
  have hg : goodB f = (decide (0 ≤ ceilR f) && decide (ceilR f ≤ 1000000000000000)) := rfl
  have hc : ceilR f = if ((quoZ f.num f.den : Int) : Rat) < f then quoZ f.num f.den + 1 else quoZ f.num f.den := rfl
  have hlt := cmpR_lt ((quoZ f.num f.den : Int) : Rat) f
  by_cases hi : i64B (quoZ f.num f.den)
  case neg =>
    have e : goodB f = false := by
      rw [Bool.eq_false_iff]
      exact fun q => hi (hin q).1
    rw [show intV (quoZ f.num f.den) = 0 from if_neg hi, decide_eq_false hi] at i1
    rw [e]
    refine ⟨0, ?_, fun q => by cases q⟩
    clear hin hg hc hlt e
    generalize quoZ f.num f.den = x at *
    refine ACalls.of_W (qs := [cI 0, cB false]) [2, 3] 28 Try.func36 (by kernel_rfl) rfl rfl rfl fun G => ?_
    refine W.initA (hw := ?_)
    repeat' (first | ((first | apply U_ | (apply Ug_; exact rfl; exact rfl) | (apply Ugq_; exact rfl; exact rfl) | apply Lex.u | (apply Lex.g; exact rfl; exact rfl) | (apply Lex.gq; exact rfl; exact rfl)); (first | exact QX.B TYok | exact QX.Ext TYok | exact QCd (f1) | exact QCd (i1)); exact rfl) | refine SX.Box TYok (h := ?_) | refine SC ?_ | refine SG ?_ | (apply W.draw2 (id := 4) [0, 1, 0, 7, 15] [[4], [14], [1], [15, 16], [17]] 5 [(14, 16), (15, 16384), (16, 2), (17, 98304), (18, 131072)] mixed (by kernel_rfl) rfl rfl) | (refine W.condA (ht := fun hb => ?_) (hf := fun hb => ?_) <;> (try simp at hb) <;> (try (exfalso; omega))))
    all_goals first
      | exact Fin.ret ResL.auto
      | trace_state
  have w1 := whole_ok _ hi
  have c1 := fcmp_ok ((quoZ f.num f.den : Int) : Rat) f (okF_int hi) o
  rw [show intV (quoZ f.num f.den) = quoZ f.num f.den from if_pos hi, decide_eq_true hi] at i1
  by_cases h1 : ((quoZ f.num f.den : Int) : Rat) < f
  · have y := hlt.2 h1
    rw [if_pos h1] at hc
    clear hlt
    generalize hCC : cmpR ((quoZ f.num f.den : Int) : Rat) f = C at *
    by_cases hm : quoZ f.num f.den < 9223372036854775807
    · refine ⟨quoZ f.num f.den + 1, ?_, fun _ => hc.symm⟩
      rw [hg, hc]
      unfold i64B at hi
      clear hin hc hg hCC h1
      generalize ((quoZ f.num f.den : Int) : Rat) = X at *
      generalize quoZ f.num f.den = x at *
      refine ACalls.of_W (qs := [cI (x + 1), cB (decide (0 ≤ x + 1) && decide (x + 1 ≤ 1000000000000000))]) [2, 3] 28 Try.func36 (by kernel_rfl) rfl rfl rfl fun G => ?_
      refine W.initA (hw := ?_)
      repeat' (first | ((first | apply U_ | (apply Ug_; exact rfl; exact rfl) | (apply Ugq_; exact rfl; exact rfl) | apply Lex.u | (apply Lex.g; exact rfl; exact rfl) | (apply Lex.gq; exact rfl; exact rfl)); (first | exact QX.B TYok | exact QX.Ext TYok | exact QCd (f1) | exact QCd (i1) | exact QCd (w1) | exact QCd (c1)); exact rfl) | refine SX.Box TYok (h := ?_) | refine SC ?_ | refine SG ?_ | (apply W.draw2 (id := 4) [0, 1, 0, 7, 15] [[4], [14], [1], [15, 16], [17]] 5 [(14, 16), (15, 16384), (16, 2), (17, 98304), (18, 131072)] mixed (by kernel_rfl) rfl rfl) | (refine W.condA (ht := fun hb => ?_) (hf := fun hb => ?_) <;> (try simp at hb) <;> (try (exfalso; omega))))
      all_goals first
        | exact Fin.ret ResL.auto
        | (exfalso; omega)
        | trace_state
    · have e : goodB f = false := by
        rw [Bool.eq_false_iff]
        exact fun q => hm (hin q).2.1
      rw [e]
      have ex : quoZ f.num f.den = 9223372036854775807 := by unfold i64B at hi; omega
      refine ⟨-9223372036854775808, ?_, fun q => by cases q⟩
      clear hin hc hg hCC h1 e
      rw [ex] at f1 i1 w1 c1
      generalize ((9223372036854775807 : Int) : Rat) = X at *
      refine ACalls.of_W (qs := [cI (-9223372036854775808), cB false]) [2, 3] 28 Try.func36 (by kernel_rfl) rfl rfl rfl fun G => ?_
      refine W.initA (hw := ?_)
      repeat' (first | ((first | apply U_ | (apply Ug_; exact rfl; exact rfl) | (apply Ugq_; exact rfl; exact rfl) | apply Lex.u | (apply Lex.g; exact rfl; exact rfl) | (apply Lex.gq; exact rfl; exact rfl)); (first | exact QX.B TYok | exact QX.Ext TYok | exact QCd (f1) | exact QCd (i1) | exact QCd (w1) | exact QCd (c1)); exact rfl) | refine SX.Box TYok (h := ?_) | refine SC ?_ | refine SG ?_ | (apply W.draw2 (id := 4) [0, 1, 0, 7, 15] [[4], [14], [1], [15, 16], [17]] 5 [(14, 16), (15, 16384), (16, 2), (17, 98304), (18, 131072)] mixed (by kernel_rfl) rfl rfl) | (refine W.condA (ht := fun hb => ?_) (hf := fun hb => ?_) <;> (try simp at hb) <;> (try (exfalso; omega))))
      all_goals first
        | exact Fin.ret ResL.auto
        | (exfalso; omega)
        | trace_state
  · have y : ¬ cmpR ((quoZ f.num f.den : Int) : Rat) f < 0 := fun q => h1 (hlt.1 q)
    rw [if_neg h1] at hc
    clear hlt
    generalize hCC : cmpR ((quoZ f.num f.den : Int) : Rat) f = C at *
    refine ⟨quoZ f.num f.den, ?_, fun _ => hc.symm⟩
    rw [hg, hc]
    clear hin hc hg hCC h1
    generalize ((quoZ f.num f.den : Int) : Rat) = X at *
    generalize quoZ f.num f.den = x at *
    refine ACalls.of_W (qs := [cI x, cB (decide (0 ≤ x) && decide (x ≤ 1000000000000000))]) [2, 3] 28 Try.func36 (by kernel_rfl) rfl rfl rfl fun G => ?_
    refine W.initA (hw := ?_)
    repeat' (first | ((first | apply U_ | (apply Ug_; exact rfl; exact rfl) | (apply Ugq_; exact rfl; exact rfl) | apply Lex.u | (apply Lex.g; exact rfl; exact rfl) | (apply Lex.gq; exact rfl; exact rfl)); (first | exact QX.B TYok | exact QX.Ext TYok | exact QCd (f1) | exact QCd (i1) | exact QCd (w1) | exact QCd (c1)); exact rfl) | refine SX.Box TYok (h := ?_) | refine SC ?_ | refine SG ?_ | (apply W.draw2 (id := 4) [0, 1, 0, 7, 15] [[4], [14], [1], [15, 16], [17]] 5 [(14, 16), (15, 16384), (16, 2), (17, 98304), (18, 131072)] mixed (by kernel_rfl) rfl rfl) | (refine W.condA (ht := fun hb => ?_) (hf := fun hb => ?_) <;> (try simp at hb) <;> (try (exfalso; omega))))
    all_goals first
      | exact Fin.ret ResL.auto
      | (exfalso; omega)
      | trace_state
end
end Go.Proofs.Ytgpcmgjdkefdjaa
end
