/-
  PriceOrder: the row: what came in is read, the contract of the function gives true, and what came in stands.
-/
import Derived.Test.YtgpcmgjdkefdjaaOS11
import Derived.Test.YtgpcmgjdkefdjaaOS03
import Derived.Test.YtgpcmgjdkefdjaaOS05
import Derived.Test.YtgpcmgjdkefdjaaOS08
section
set_option linter.unusedVariables false
set_option linter.unusedSimpArgs false
set_option maxHeartbeats 8000000
set_option linter.unusedSectionVars false
namespace Go.Proofs.Ytgpcmgjdkefdjaa
open Lf Go
attribute [local irreducible] PureOp EffOp Ev RG W Then InBlock Lf.Fin nth App InitE Pick SubE EvL EvD EvP EvR ResL Lf.Lex SubR SubBR RA RAll EvC FinO FinM ResM ResD FinS val pw digs trimL
section
def cellI (n : Int) : List Cell := [.int .i64 n]
theorem KI : KeyK Try.prog 3 kI := KeyK.int (by kernel_rfl)
def mg (M : List (Int × Int)) (y : Int) : Int := (mget M y).getD 0
theorem mg_mput (M : List (Int × Int)) (k v y : Int) : mg (mput M k v) y = if k = y then v else mg M y := by
  unfold mg
  induction M with
  | nil =>
    rw [mput, mget, mget]
    split <;> rfl
  | cons p r ih =>
    obtain ⟨x, z⟩ := p
    rw [mput]
    by_cases h : x = k
    · subst h
      rw [if_pos rfl, mget, mget]
      split <;> rfl
    · rw [if_neg h, mget, mget]
      by_cases h2 : x = y
      · subst h2
        rw [if_pos rfl, if_pos rfl, if_neg (fun e => h e.symm)]
      · rw [if_neg h2, if_neg h2]
        exact ih
/-- the sum of the amounts of one year -/
def Dsum (d : Int) : List Fl → Int → Int
  | [], _ => 0
  | f :: l, y => (if yrI d f = y then f.amt else 0) + Dsum d l y
theorem Dsum_snoc (d : Int) (l : List Fl) (f : Fl) (y : Int) : Dsum d (l ++ [f]) y = Dsum d l y + (if yrI d f = y then f.amt else 0) := by
  induction l with
  | nil => simp [Dsum]
  | cons g l ih => rw [List.cons_append, Dsum, Dsum, ih]; omega
theorem Uof_next (d : Int) (l : List Fl) (y : Int) : Uof d l (y + 1) = Uof d l y + Dsum d l y := by
  induction l with
  | nil => rfl
  | cons f l ih =>
    rw [Uof, Uof, Dsum, ih]
    by_cases h1 : yrI d f < y
    · rw [if_pos (by omega), if_pos h1, if_neg (by omega)]; omega
    · by_cases h2 : yrI d f = y
      · rw [if_pos (by omega), if_neg h1, if_pos h2]; omega
      · rw [if_neg (by omega), if_neg h1, if_neg h2]; omega
theorem Dsum_rng {d : Int} {l : List Fl} (h : ∀ f ∈ l, -1000000000000000 ≤ f.amt ∧ f.amt ≤ 1000000000000000) (y : Int) : -(1000000000000000 * (l.length : Int)) ≤ Dsum d l y ∧ Dsum d l y ≤ 1000000000000000 * (l.length : Int) := by
  induction l with
  | nil => simp [Dsum]
  | cons f l ih =>
    have := ih fun g hg => h g (List.mem_cons_of_mem _ hg)
    have := h f (List.mem_cons_self ..)
    rw [Dsum, List.length_cons, show ((l.length + 1 : Nat) : Int) = l.length + 1 by omega, Int.mul_add, Int.mul_one]
    split <;> omega
theorem Uof_rng' {d : Int} {l : List Fl} (h : ∀ f ∈ l, -1000000000000000 ≤ f.amt ∧ f.amt ≤ 1000000000000000) (y : Int) : -(1000000000000000 * (l.length : Int)) ≤ Uof d l y ∧ Uof d l y ≤ 1000000000000000 * (l.length : Int) := by
  induction l with
  | nil => simp [Uof]
  | cons f l ih =>
    have := ih fun g hg => h g (List.mem_cons_of_mem _ hg)
    have := h f (List.mem_cons_self ..)
    rw [Uof, List.length_cons, show ((l.length + 1 : Nat) : Int) = l.length + 1 by omega, Int.mul_add, Int.mul_one]
    split <;> omega
def negF (f : Fl) : Fl := ⟨f.day, -f.amt⟩
theorem Uof_neg (d : Int) (l : List Fl) (n : Int) : Uof d (l.map negF) n = -Uof d l n := by
  induction l with
  | nil => rfl
  | cons f l ih =>
    rw [List.map_cons, Uof, Uof, ih, show yrI d (negF f) = yrI d f from rfl, show (negF f).amt = -f.amt from rfl]
    split <;> omega
theorem Uof_app (d : Int) (l m : List Fl) (n : Int) : Uof d (l ++ m) n = Uof d l n + Uof d m n := by
  induction l with
  | nil => simp [Uof]
  | cons f l ih => rw [List.cons_append, Uof, Uof, ih]; omega
theorem mostY_app (d : Int) (l m : List Fl) : mostY d (l ++ m) = max (mostY d l) (mostY d m) := by
  induction l with
  | nil => have := mostY_nn d m; simp only [List.nil_append, mostY]; omega
  | cons f l ih => rw [List.cons_append, mostY, mostY, ih]; omega
def signed (a b : List Fl) : List Fl := a ++ b.map negF
theorem signed_len (a b : List Fl) : (signed a b).length = (a ++ b).length := by simp [signed]
theorem signed_at {a b : List Fl} {k : Nat} (hk : k < (a ++ b).length) : (nth (signed a b) k).day = (nth (a ++ b) k).day ∧ (nth (signed a b) k).amt = if k < a.length then (nth (a ++ b) k).amt else -(nth (a ++ b) k).amt := by
  rw [nth_eq (by rw [signed_len]; exact hk), nth_eq hk]
  unfold signed
  by_cases h : k < a.length
  · rw [List.getElem_append_left h, List.getElem_append_left h, if_pos h]
    exact ⟨rfl, rfl⟩
  · rw [List.getElem_append_right (by omega), List.getElem_append_right (by omega), if_neg h, List.getElem_map]
    exact ⟨rfl, rfl⟩
theorem dearer_ok (a b : List Fl) (d : Int) (hla : a.length ≤ 9223372036854775807) (hlb : b.length ≤ 9223372036854775807) (bb : Bool) (hbb : bb = true ↔ Dear a b d) : ACalls Try.prog 18 [slW a, slW b, cI d] (.pv (cB bb)) := by
  have p1 := pright_ok a d hla
  have p2 := pright_ok b d hlb
  by_cases h1 : flowsB a d = true ∧ flowsB b d = true
  case neg =>
    have e : bb = false := by
      rw [Bool.eq_false_iff]
      exact fun q => h1 ⟨(hbb.1 q).1.fl, (hbb.1 q).2.1.fl⟩
    subst e
    generalize flowsB a d = x at *
    generalize flowsB b d = y at *
    refine ACalls.of_W (qs := [cB false]) [6] 76 Try.func18 (by kernel_rfl) rfl rfl rfl fun G => ?_
    refine W.initA (hw := ?_)
    repeat' (first | ((first | apply U_ | (apply Ug_; exact rfl; exact rfl) | (apply Ugq_; exact rfl; exact rfl)); (first | exact QX.B TYok | exact QX.Num TYok | exact QX.Len TYok | exact QX.Idx TYok | exact QCd (p1) | exact QCd (p2)); exact rfl) | refine SX.Alloc TYok (h := ?_) | refine SX.Store TYok (h := ?_) | refine SX.Lit TYok (h := ?_) | refine SC ?_ | refine SG ?_ | (refine W.condA (ht := fun hb => ?_) (hf := fun hb => ?_) <;> (try simp at hb) <;> (try (exfalso; first | exact h1 hb | omega))))
    all_goals first
      | exact Fin.ret ResL.auto
      | trace_state
  rw [h1.1] at p1
  rw [h1.2] at p2
  have ra := flowsB_yes h1.1
  have rb := flowsB_yes h1.2
  have hdd := ra.1.1
  have cc := concat_ok [a, b] (by simp) (fun x hx => by
    rcases List.mem_cons.1 hx with rfl | hx
    · omega
    · rcases List.mem_cons.1 hx with rfl | hx
      · omega
      · cases hx)
  rw [show ([a, b] : List (List Fl)).flatten = a ++ b by simp] at cc
  have rC : ∀ f ∈ a ++ b, (0 ≤ f.day ∧ f.day ≤ 200000) ∧ (-1000000000000000 ≤ f.amt ∧ f.amt ≤ 1000000000000000) := fun f hf => by
    rcases List.mem_append.1 hf with h | h
    · exact ra.2 f h
    · exact rb.2 f h
  have lC : (a ++ b).length = a.length + b.length := List.length_append
  have rE : ∀ f ∈ signed a b, -1000000000000000 ≤ f.amt ∧ f.amt ≤ 1000000000000000 := fun f hf => by
    unfold signed at hf
    rcases List.mem_append.1 hf with h | h
    · exact (ra.2 f h).2
    · obtain ⟨g, hg, rfl⟩ := List.mem_map.1 h
      have := (rb.2 g hg).2
      show -1000000000000000 ≤ -g.amt ∧ -g.amt ≤ 1000000000000000
      omega
  have hsg := fun k (hk : k < (a ++ b).length) => signed_at hk
  have lE := signed_len a b
  refine ACalls.of_W (qs := [cB bb]) [6] 76 Try.func18 (by kernel_rfl) rfl rfl rfl fun G => ?_
  refine W.initA (hw := ?_)
  repeat' (first | ((first | apply U_ | (apply Ug_; exact rfl; exact rfl) | (apply Ugq_; exact rfl; exact rfl)); (first | (apply Q_litD TYok; (repeat (first | exact EvR.nil | apply EvR.cons Ev.auto)); exact rfl; exact rfl; exact rfl; exact rfl; exact rfl; exact rfl) | exact QX.B TYok | exact QX.Num TYok | exact QX.Len TYok | exact QX.Idx TYok | exact QCd (p1) | exact QCd (p2) | exact QCd (cc)); exact rfl) | refine SX.Alloc TYok (h := ?_) | refine SX.Store TYok (h := ?_) | refine SX.Lit TYok (h := ?_) | (apply S_makeMap TYok 0; exact rfl; exact rfl) | refine SC ?_ | refine SG ?_ | (refine W.condA (ht := fun hb => ?_) (hf := fun hb => ?_) <;> (try simp at hb) <;> (try (exfalso; omega))))
  apply W.loopP (σ := (Nat × List (Int × Int))) 76 [0, 2, 7, 28, 29] (fun z => z.1 ≤ (a ++ b).length ∧ (∀ j, j < z.1 → d ≤ (nth (a ++ b) j).day) ∧ ∀ y, mg z.2 y = Dsum d ((signed a b).take z.1) y) (fun z => [(30, vI z.1), (8, vI (mostY d ((a ++ b).take z.1)))]) (fun z => [(24, ⟨mapTag, 0, z.2.map (mrow kI cellI)⟩)]) (fun z => (a ++ b).length - z.1) ((0, []))
  case hp => repeat (first | exact Pick.nil | apply Pick.cons rfl)
  case h0 =>
    refine ⟨⟨by simp, fun j hj => by omega, fun y => rfl⟩, ?_⟩
    exact Le.auto
  case round =>
    rintro ⟨k, M⟩ ⟨g1, g2, g3⟩
    apply W.norm (by repeat (first | exact App.nil | apply App.cons))
    dsimp only
    simp only at g1 g2 g3
    by_cases hk : k < (a ++ b).length
    · have hm := nth_mem hk
      have f1 := rC _ hm
      obtain ⟨s1, s2⟩ := hsg k hk
      by_cases hd : (nth (a ++ b) k).day < d
      · have e : bb = false := by
          rw [Bool.eq_false_iff]
          intro q
          rcases List.mem_append.1 hm with h | h
          · have := (hbb.1 q).1.early _ h; omega
          · have := (hbb.1 q).2.1.early _ h; omega
        subst e
        generalize a ++ b = C at *
        repeat' (first | ((first | apply U_ | (apply Ug_; exact rfl; exact rfl) | (apply Ugq_; exact rfl; exact rfl)); (first | exact QX.B TYok | exact QX.Num TYok | exact QX.Len TYok | exact QX.Idx TYok); exact rfl) | refine SX.Alloc TYok (h := ?_) | refine SX.Store TYok (h := ?_) | refine SX.Lit TYok (h := ?_) | refine SC ?_ | refine SG ?_ | (refine W.condA (ht := fun hb => ?_) (hf := fun hb => ?_) <;> (try simp at hb) <;> (try (exfalso; omega))))
        all_goals first
          | exact Fin.ret ResL.auto
          | (exfalso; omega)
          | trace_state
      · have e2 := mostY_snoc d ((a ++ b).take k) (nth (a ++ b) k)
        rw [← take_nth hk] at e2
        have hy0 : 0 ≤ yrI d (nth (a ++ b) k) := by unfold yrI; omega
        have eyI : yrI d (nth (a ++ b) k) = ((nth (a ++ b) k).day - d) / 365 := rfl
        have eyE : yrI d (nth (signed a b) k) = yrI d (nth (a ++ b) k) := by unfold yrI; rw [s1]
        have dr := Dsum_rng (d := d) (l := (signed a b).take k) (fun f hf => rE f (List.mem_of_mem_take hf)) (yrI d (nth (a ++ b) k))
        have lt : (((signed a b).take k).length : Int) ≤ 800 := by simp; omega
        have f2 := f1.2
        have mg0 := g3 (yrI d (nth (a ++ b) k))
        have hst : ∀ v, v = mg M (yrI d (nth (a ++ b) k)) + (nth (signed a b) k).amt → (∀ y, mg (mput M (yrI d (nth (a ++ b) k)) v) y = Dsum d ((signed a b).take (k + 1)) y) := fun v hv y => by
          rw [mg_mput, take_nth (by rw [lE]; exact hk), Dsum_snoc, eyE, g3 y]
          by_cases e : yrI d (nth (a ++ b) k) = y
          · rw [if_pos e, if_pos e, hv, e, g3 y]
          · rw [if_neg e, if_neg e]; omega
        have hday : ∀ j, j < k + 1 → d ≤ (nth (a ++ b) j).day := fun j hj => by
          rcases Nat.lt_or_ge j k with q | q
          · exact g2 j q
          · obtain rfl : j = k := by omega
            omega
        rw [s2] at hst
        rw [← mg0] at dr
        generalize hC : a ++ b = C at *
        generalize mostY d (C.take k) = Y0 at *
        by_cases hka : k < a.length
        · rw [if_pos hka] at hst
          rw [eyI] at hst e2 hy0 dr
          repeat' (first | ((first | apply U_ | (apply Ug_; exact rfl; exact rfl) | (apply Ugq_; exact rfl; exact rfl)); (first | (apply Q_lookup TYok KI (vc := cellI) (M := M) (k := ((nth C k).day - d) / 365) (r := .one (.int .i64 (mg M (((nth C k).day - d) / 365)))); exact Ev.auto; exact rfl; exact Ev.auto; exact rfl; exact rfl; exact rfl; (unfold mg; cases mget M _ <;> rfl)) | exact QX.B TYok | exact QX.Num TYok | exact QX.Len TYok | exact QX.Idx TYok); exact rfl) | refine SX.Alloc TYok (h := ?_) | refine SX.Store TYok (h := ?_) | refine SX.Lit TYok (h := ?_) | (apply S_mapUpdate TYok KI (vc := cellI); exact Ev.auto; exact rfl; exact Ev.auto; exact Ev.auto; exact rfl; exact rfl; exact rfl) | refine SC ?_ | refine SG ?_ | (refine W.condA (ht := fun hb => ?_) (hf := fun hb => ?_) <;> (try simp at hb) <;> (try (exfalso; omega))))
          all_goals first
            | (refine ⟨(k + 1, _), ⟨by simp only; omega, hday, hst _ rfl⟩, ?_, by simp only; omega⟩; (try dsimp only); rw [e2]; exact Le.auto)
            | (exfalso; omega)
            | trace_state
        · rw [if_neg hka] at hst
          rw [eyI] at hst e2 hy0 dr
          have hst2 : ∀ v, v = mg M (((nth C k).day - d) / 365) - (nth C k).amt → (∀ y, mg (mput M (((nth C k).day - d) / 365) v) y = Dsum d ((signed a b).take (k + 1)) y) := fun v hv => hst v (by omega)
          repeat' (first | ((first | apply U_ | (apply Ug_; exact rfl; exact rfl) | (apply Ugq_; exact rfl; exact rfl)); (first | (apply Q_lookup TYok KI (vc := cellI) (M := M) (k := ((nth C k).day - d) / 365) (r := .one (.int .i64 (mg M (((nth C k).day - d) / 365)))); exact Ev.auto; exact rfl; exact Ev.auto; exact rfl; exact rfl; exact rfl; (unfold mg; cases mget M _ <;> rfl)) | exact QX.B TYok | exact QX.Num TYok | exact QX.Len TYok | exact QX.Idx TYok); exact rfl) | refine SX.Alloc TYok (h := ?_) | refine SX.Store TYok (h := ?_) | refine SX.Lit TYok (h := ?_) | (apply S_mapUpdate TYok KI (vc := cellI); exact Ev.auto; exact rfl; exact Ev.auto; exact Ev.auto; exact rfl; exact rfl; exact rfl) | refine SC ?_ | refine SG ?_ | (refine W.condA (ht := fun hb => ?_) (hf := fun hb => ?_) <;> (try simp at hb) <;> (try (exfalso; omega))))
          all_goals first
            | (refine ⟨(k + 1, _), ⟨by simp only; omega, hday, hst2 _ rfl⟩, ?_, by simp only; omega⟩; (try dsimp only); rw [e2]; exact Le.auto)
            | (exfalso; omega)
            | trace_state
    obtain rfl : k = (a ++ b).length := by omega
    have ia : LIn a d := ⟨h1.1, fun f hf => by
      obtain ⟨i, hi, rfl⟩ := List.getElem_of_mem hf
      have := g2 i (by omega)
      rw [nth_eq (by omega), List.getElem_append_left hi] at this
      exact this⟩
    have ib : LIn b d := ⟨h1.2, fun f hf => by
      obtain ⟨i, hi, rfl⟩ := List.getElem_of_mem hf
      have := g2 (a.length + i) (by omega)
      rw [nth_eq (by omega), List.getElem_append_right (by omega)] at this
      simpa using this⟩
    rw [dear_iff ia ib, ← mostY_app] at hbb
    rw [List.take_length]
    have g3' : ∀ y, mg M y = Dsum d (signed a b) y := fun y => by rw [g3 y, ← lE, List.take_length]
    have hdiff : ∀ n : Int, Uof d (signed a b) n = Uof d a n - Uof d b n := fun n => by
      unfold signed
      rw [Uof_app, Uof_neg]; omega
    have ur := Uof_rng' (d := d) rE
    have dr := Dsum_rng (d := d) rE
    have nx := Uof_next d (signed a b)
    have u0 : Uof d (signed a b) 0 = 0 := by
      rw [hdiff, Uof_zero ia.early (by omega), Uof_zero ib.early (by omega)]; rfl
    have m0 := mostY_nn d (a ++ b)
    have m1 := mostY_le (d := d) (l := a ++ b) (fun f hf => by
      rcases List.mem_append.1 hf with h | h
      · exact (ia.yr h).2
      · exact (ib.yr h).2)
    have lE2 : ((signed a b).length : Int) ≤ 800 := by rw [lE]; omega
    clear g1 g2 g3 hsg cc
    generalize signed a b = E at *
    generalize mostY d (a ++ b) = Y0 at *
    repeat' (first | ((first | apply U_ | (apply Ug_; exact rfl; exact rfl) | (apply Ugq_; exact rfl; exact rfl)); (first | exact QX.B TYok | exact QX.Num TYok | exact QX.Len TYok | exact QX.Idx TYok); exact rfl) | refine SX.Alloc TYok (h := ?_) | refine SX.Store TYok (h := ?_) | refine SX.Lit TYok (h := ?_) | refine SC ?_ | refine SG ?_ | (refine W.condA (ht := fun hb => ?_) (hf := fun hb => ?_) <;> (try simp at hb) <;> (try (exfalso; omega))))
    apply W.loopP (σ := Nat) 76 [7, 8] (fun k => ((k : Int) ≤ Y0 + 1) ∧ ∀ j : Nat, j < k → 0 ≤ Uof d E (j + 1)) (fun k => [(13, vI k), (12, vI (Uof d E k))]) (fun _ => [(24, ⟨mapTag, 0, M.map (mrow kI cellI)⟩)]) (fun k => (Y0 + 1).toNat - k) (0)
    case hp => repeat (first | exact Pick.nil | apply Pick.cons rfl)
    case h0 =>
      refine ⟨⟨by omega, fun j hj => by omega⟩, ?_⟩
      rw [show Uof d E ((0 : Nat) : Int) = 0 from u0]
      exact Le.auto
    case round =>
      rintro k ⟨gk, gq⟩
      apply W.norm (by repeat (first | exact App.nil | apply App.cons))
      by_cases hk : (k : Int) ≤ Y0
      · have n1 := nx (k : Int)
        rw [← g3' (k : Int)] at n1
        have r1 := ur (k : Int)
        have r2 := dr (k : Int)
        rw [← g3' (k : Int)] at r2
        have hd2 := hdiff ((k : Int) + 1)
        by_cases hlt : Uof d E ((k : Int) + 1) < 0
        · have e : bb = false := by
            rw [Bool.eq_false_iff]
            intro q
            have := hbb.1 q k hk
            omega
          subst e
          generalize Uof d E ((k : Int) + 1) = X1 at *
          generalize Uof d E (k : Int) = X at *
          repeat' (first | ((first | apply U_ | (apply Ug_; exact rfl; exact rfl) | (apply Ugq_; exact rfl; exact rfl)); (first | (apply Q_lookup TYok KI (vc := cellI) (M := M) (k := (k : Int)) (r := .one (.int .i64 (mg M (k : Int)))); exact Ev.auto; exact rfl; exact Ev.auto; exact rfl; exact rfl; exact rfl; (unfold mg; cases mget M _ <;> rfl)) | exact QX.B TYok | exact QX.Num TYok | exact QX.Len TYok | exact QX.Idx TYok); exact rfl) | refine SX.Alloc TYok (h := ?_) | refine SX.Store TYok (h := ?_) | refine SX.Lit TYok (h := ?_) | refine SC ?_ | refine SG ?_ | (refine W.condA (ht := fun hb => ?_) (hf := fun hb => ?_) <;> (try simp at hb) <;> (try (exfalso; omega))))
          all_goals first
            | exact Fin.ret ResL.auto
            | (exfalso; omega)
            | trace_state
        · have gq' : ∀ j : Nat, j < k + 1 → 0 ≤ Uof d E (j + 1) := fun j hj => by
            rcases Nat.lt_or_ge j k with q | q
            · exact gq j q
            · obtain rfl : j = k := by omega
              omega
          generalize hX1 : Uof d E ((k : Int) + 1) = X1 at *
          generalize Uof d E (k : Int) = X at *
          repeat' (first | ((first | apply U_ | (apply Ug_; exact rfl; exact rfl) | (apply Ugq_; exact rfl; exact rfl)); (first | (apply Q_lookup TYok KI (vc := cellI) (M := M) (k := (k : Int)) (r := .one (.int .i64 (mg M (k : Int)))); exact Ev.auto; exact rfl; exact Ev.auto; exact rfl; exact rfl; exact rfl; (unfold mg; cases mget M _ <;> rfl)) | exact QX.B TYok | exact QX.Num TYok | exact QX.Len TYok | exact QX.Idx TYok); exact rfl) | refine SX.Alloc TYok (h := ?_) | refine SX.Store TYok (h := ?_) | refine SX.Lit TYok (h := ?_) | refine SC ?_ | refine SG ?_ | (refine W.condA (ht := fun hb => ?_) (hf := fun hb => ?_) <;> (try simp at hb) <;> (try (exfalso; omega))))
          all_goals first
            | (refine ⟨k + 1, ⟨by omega, gq'⟩, ?_, by omega⟩; (try dsimp only); rw [show (((k + 1 : Nat)) : Int) = (k : Int) + 1 by omega, hX1, n1]; exact Le.auto)
            | (exfalso; omega)
            | trace_state
      · obtain rfl : bb = true := hbb.2 fun n hn => by
          have := gq n (by omega)
          have := hdiff ((n : Int) + 1)
          omega
        repeat' (first | ((first | apply U_ | (apply Ug_; exact rfl; exact rfl) | (apply Ugq_; exact rfl; exact rfl)); (first | exact QX.B TYok | exact QX.Num TYok | exact QX.Len TYok | exact QX.Idx TYok); exact rfl) | refine SX.Alloc TYok (h := ?_) | refine SX.Store TYok (h := ?_) | refine SX.Lit TYok (h := ?_) | refine SC ?_ | refine SG ?_ | (refine W.condA (ht := fun hb => ?_) (hf := fun hb => ?_) <;> (try simp at hb) <;> (try (exfalso; omega))))
        all_goals first
          | exact Fin.ret ResL.auto
          | (exfalso; omega)
          | trace_state
end
end Go.Proofs.Ytgpcmgjdkefdjaa
end
section
set_option linter.unusedVariables false
set_option linter.unusedSimpArgs false
set_option maxHeartbeats 8000000
set_option linter.unusedSectionVars false
namespace Go.Proofs.Ytgpcmgjdkefdjaa
open Lf Go
attribute [local irreducible] PureOp EffOp Ev RG W Then InBlock Lf.Fin nth App InitE Pick SubE EvL EvD EvP EvR ResL Lf.Lex SubR SubBR RA RAll EvC FinO FinM ResM ResD FinS val pw digs trimL
section
theorem fqOf_right {r : Rat} (h : okF r) : (fqOf r).right = true := by
  have hp := den_pos r
  unfold Fq.right fqOf rightFB
  have c := sgn_cases r.den
  rw [num_right h.1, num_right h.2, decide_eq_true (show sgn r.den = 1 by omega), val_mag, val_mag, sgn_mag, show mag r.den = r.den by omega, num_den_gcd]; rfl
theorem nth_fq {R : List Rat} {k : Nat} (hk : k < R.length) : nth (R.map fqOf) k = fqOf (nth R k) := by
  rw [nth_eq (by simpa using hk), List.getElem_map, nth_eq hk]
theorem FOk_of {R : List Rat} (ok : ∀ r ∈ R, okF r) (hl : 1 ≤ R.length ∧ R.length ≤ 60) (h : ∀ k, k < R.length → 0 < nth R k ∧ nth R k ≤ if k = 0 then 1 else nth R (k - 1)) : FOk (R.map fqOf) := by
  refine ⟨fun k hk => ?_, by simpa using hl⟩
  have hk' : k < R.length := by simpa using hk
  have o := ok _ (nth_mem hk')
  obtain ⟨h1, h2⟩ := h k hk'
  unfold chk
  rw [nth_fq hk', fqOf_val o]
  refine ⟨fqOf_right o, h1, ?_⟩
  unfold prv
  by_cases e : k = 0
  · rw [if_pos e] at h2 ⊢
    exact h2
  · rw [if_neg e] at h2 ⊢
    rw [nth_fq (by omega), fqOf_val (ok _ (nth_mem (by omega)))]
    exact h2
theorem fewF_of {R : List Rat} (h : ∀ r ∈ R, bd r 6) : fewF (R.map fqOf) := fun q hq => by
  obtain ⟨r, hr, rfl⟩ := List.mem_map.1 hq
  obtain ⟨h1, h2⟩ := h r hr
  have a := sgn_cases r.num
  have b := sgn_cases r.den
  exact ⟨(digs_len (mag_nn _)).2 (by omega), (digs_len (mag_nn _)).2 (by omega)⟩
theorem few_FqOk {L : List Fq} (h : fewF L) : ∀ q ∈ L, FqOk q := fun q hq => by
  have := h q hq
  unfold FqOk
  omega
theorem addsOk_few {l : List Fl} {d : Int} {L : List Fq} (hv : VIn l d L) (h : l.length ≤ 4) : addsOk L d l := by
  have key : ∀ k, k ≤ l.length → bd (vsum L d l k) (4 + 11 * k) := by
    intro k
    induction k with
    | zero => exact fun _ => int_bd (n := 0) (by omega)
    | succ k ih =>
      intro hk
      have b := ih (by omega)
      have t := (hv.term_bd (k := k) (by omega)).2.1
      exact (add_bd (k := 4 + 11 * k + 10) (by omega) b t (by omega)).1
  intro j hj
  exact (add_bd (k := 4 + 11 * j + 10) (by omega) (key j (by omega)) (hv.term_bd hj).2.1 (by omega)).2
attribute [local irreducible] sgn mag gcdZ quoZ remZ fullZ fullE
theorem of_ok (n m : Int) (h : i64B n) (hm : i64B m) (h0 : m ≠ 0) : ACalls Try.prog 25 [cI n, cI m] (.pv (zF (Rat.divInt n m))) := by
  have n1 := qOf_ok n m h hm h0
  generalize Rat.divInt n m = r at *
  refine ACalls.of_M TYok (qs := [zF r]) [.cell 4 31] 8 Try.func25 (by kernel_rfl) rfl rfl rfl fun G => ?_
  refine W.initA (hw := ?_)
  repeat' (first | ((first | apply U_); (first | exact QX.B TYok | exact QCd (n1)); exact rfl) | refine SX.Alloc TYok (h := ?_) | refine SX.Store TYok (h := ?_) | refine SC ?_ | (refine W.condA (ht := fun hb => ?_) (hf := fun hb => ?_) <;> (try simp at hb) <;> (try (exfalso; omega))))
  all_goals exact FinM.ret ResM.auto
theorem ints_same (l : List Int) (hl : l.length ≤ 20) : ACalls Try.prog 15 [slI' l, slI' l] (.pv (cB true)) := by
  refine ACalls.of_W (qs := [cB true]) [4] 26 Try.func15 (by kernel_rfl) rfl rfl rfl fun G => ?_
  refine W.initA (hw := ?_)
  repeat' (first | (exfalso; omega) | ((first | apply U_ | apply Lex.u | (apply Lex.g; exact rfl; exact rfl) | (apply Lex.gq; exact rfl; exact rfl)); (first | exact QX.B TYok | exact QX.Len TYok | exact QX.Idx TYok); exact rfl) | refine SC ?_ | (apply W.draw2 (id := 6) [0, 0, 3, 7, 0, 0, 48, 112, 255] [[0], [5], [17, 18], [19], [1], [5], [21, 22], [23], [20, 24]] 9 [(17, 1), (18, 32), (19, 393216), (20, 524288), (21, 2), (22, 32), (23, 6291456), (24, 8388608), (25, 17825792)] mixed (by kernel_rfl) rfl rfl) | (refine W.condA (ht := fun hb => ?_) (hf := fun hb => ?_) <;> (try simp at hb) <;> (try (exfalso; omega))))
  apply W.loopP (σ := Nat) 26 [0, 1] (fun k => k ≤ l.length) (fun k => [(5, vI k)]) (fun _ => []) (fun k => l.length - k) (0)
  case hp => repeat (first | exact Pick.nil | apply Pick.cons rfl)
  case h0 =>
    refine ⟨by simp, ?_⟩
    exact Le.auto
  case round =>
    rintro k g1
    apply W.norm (by repeat (first | exact App.nil | apply App.cons))
    by_cases hk : k < l.length
    · repeat' (first | ((first | apply U_ | apply Lex.u | (apply Lex.g; exact rfl; exact rfl) | (apply Lex.gq; exact rfl; exact rfl)); (first | exact QX.B TYok | exact QX.Len TYok | exact QX.Idx TYok); exact rfl) | refine SC ?_ | (apply W.draw2 (id := 6) [0, 0, 3, 7, 0, 0, 48, 112, 255] [[0], [5], [17, 18], [19], [1], [5], [21, 22], [23], [20, 24]] 9 [(17, 1), (18, 32), (19, 393216), (20, 524288), (21, 2), (22, 32), (23, 6291456), (24, 8388608), (25, 17825792)] mixed (by kernel_rfl) rfl rfl) | (refine W.condA (ht := fun hb => ?_) (hf := fun hb => ?_) <;> (try simp at hb) <;> (try (exfalso; omega))))
      all_goals first
        | (refine ⟨k + 1, by omega, ?_, by omega⟩; exact Le.auto)
        | (exfalso; omega)
        | trace_state
    · obtain rfl : k = l.length := by omega
      repeat' (first | ((first | apply U_ | apply Lex.u | (apply Lex.g; exact rfl; exact rfl) | (apply Lex.gq; exact rfl; exact rfl)); (first | exact QX.B TYok | exact QX.Len TYok | exact QX.Idx TYok); exact rfl) | refine SC ?_ | (apply W.draw2 (id := 6) [0, 0, 3, 7, 0, 0, 48, 112, 255] [[0], [5], [17, 18], [19], [1], [5], [21, 22], [23], [20, 24]] 9 [(17, 1), (18, 32), (19, 393216), (20, 524288), (21, 2), (22, 32), (23, 6291456), (24, 8388608), (25, 17825792)] mixed (by kernel_rfl) rfl rfl) | (refine W.condA (ht := fun hb => ?_) (hf := fun hb => ?_) <;> (try simp at hb) <;> (try (exfalso; omega))))
      all_goals first
        | exact Fin.ret ResL.auto
        | trace_state
theorem few_ok (l : List Fl) (L : List Fq) (hl : l.length ≤ 9223372036854775807) (hL : L.length ≤ 9223372036854775807) (b : Bool) (hbb : b = true ↔ (l.length ≤ 20 ∧ L.length ≤ 12) ∧ fewF L) : ACalls Try.prog 9 [slW l, slF L] (.pv (cB b)) := by
  refine ACalls.of_W (qs := [cB b]) [4] 42 Try.func9 (by kernel_rfl) rfl rfl rfl fun G => ?_
  refine W.initA (hw := ?_)
  repeat' (first | ((first | apply U_ | (apply Ug_; exact rfl; exact rfl) | (apply Ugq_; exact rfl; exact rfl)); (first | exact QX.B TYok | exact QX.Len TYok | exact QX.Idx TYok); exact rfl) | refine SC ?_ | refine SG ?_ | (refine W.condA (ht := fun hb => ?_) (hf := fun hb => ?_) <;> (try simp at hb) <;> (try (exfalso; omega))))
  apply W.loopP (σ := Nat) 42 [0, 1] (fun k => k ≤ L.length ∧ k ≤ 13 ∧ ∀ j, j < k → (nth L j).d.length ≤ 6 ∧ (nth L j).d'.length ≤ 6) (fun k => [(5, vI k)]) (fun _ => []) (fun k => L.length - k) (0)
  case hp => repeat (first | exact Pick.nil | apply Pick.cons rfl)
  case h0 =>
    refine ⟨⟨by omega, by omega, fun j hj => by omega⟩, ?_⟩
    exact Le.auto
  case round =>
    rintro k ⟨g1, g2, g3⟩
    apply W.norm (by repeat (first | exact App.nil | apply App.cons))
    by_cases hk : k < L.length ∧ k ≤ 12
    · by_cases hw : (nth L k).d.length ≤ 6 ∧ (nth L k).d'.length ≤ 6
      · repeat' (first | ((first | apply U_ | (apply Ug_; exact rfl; exact rfl) | (apply Ugq_; exact rfl; exact rfl)); (first | exact QX.B TYok | exact QX.Len TYok | exact QX.Idx TYok); exact rfl) | refine SC ?_ | refine SG ?_ | (refine W.condA (ht := fun hb => ?_) (hf := fun hb => ?_) <;> (try simp at hb) <;> (try (exfalso; omega))))
        all_goals first
          | (refine ⟨k + 1, ⟨by omega, by omega, fun j hj => ?_⟩, ?_, by omega⟩
             · rcases Nat.lt_or_ge j k with q | q
               · exact g3 j q
               · obtain rfl : j = k := by omega
                 exact hw
             · exact Le.auto)
          | (exfalso; omega)
          | trace_state
      · have e : b = false := by
          rw [Bool.eq_false_iff]
          exact fun q => hw ((hbb.1 q).2 _ (nth_mem hk.1))
        subst e
        repeat' (first | ((first | apply U_ | (apply Ug_; exact rfl; exact rfl) | (apply Ugq_; exact rfl; exact rfl)); (first | exact QX.B TYok | exact QX.Len TYok | exact QX.Idx TYok); exact rfl) | refine SC ?_ | refine SG ?_ | (refine W.condA (ht := fun hb => ?_) (hf := fun hb => ?_) <;> (try simp at hb) <;> (try (exfalso; omega))))
        all_goals first
          | exact Fin.ret ResL.auto
          | (exfalso; omega)
          | trace_state
    · have e : b = (decide ((l.length : Int) ≤ 20) && decide ((L.length : Int) ≤ 12)) := by
        rw [Bool.eq_iff_iff, hbb, Bool.and_eq_true, decide_eq_true_iff, decide_eq_true_iff]
        constructor
        · rintro ⟨⟨h1, h2⟩, _⟩; omega
        · rintro ⟨h1, h2⟩
          refine ⟨by omega, fun q hq => ?_⟩
          obtain ⟨i, hi, rfl⟩ := List.getElem_of_mem hq
          rw [← nth_eq hi]
          exact g3 i (by omega)
      subst e
      clear hbb
      repeat' (first | ((first | apply U_ | (apply Ug_; exact rfl; exact rfl) | (apply Ugq_; exact rfl; exact rfl)); (first | exact QX.B TYok | exact QX.Len TYok | exact QX.Idx TYok); exact rfl) | refine SC ?_ | refine SG ?_ | (refine W.condA (ht := fun hb => ?_) (hf := fun hb => ?_) <;> (try simp at hb) <;> (try (exfalso; omega))))
      all_goals first
        | exact Fin.ret ResL.auto
        | (exfalso; omega)
        | trace_state
/-- what Cost of both returns -/
theorem cost_both (l : List Fl) (d : Int) (S : List (List Fq)) (hl : l.length ≤ 9223372036854775807) (hS : S.length ≤ 9223372036854775807) (hok : SOk S) : ∃ V e, ACalls Try.prog 12 [slW l, cI d, slS S] (.tup [slI' V, cI e]) ∧ ACalls Try.prog 13 [slW l, cI d, slS S] (.tup [slI' V, cI e]) ∧ (e ≠ 0 → V = []) ∧
    (e = 0 → (1 ≤ S.length ∧ S.length ≤ 20) ∧ allZero l d S S.length ∧ V = (S.map (vS l d)).map ceilR ∧ ∀ j, j < S.length → goodB (vS l d (nth S j)) = true) ∧ ((1 ≤ S.length ∧ S.length ≤ 20) → allZero l d S S.length → (∀ j, j < S.length → goodB (vS l d (nth S j)) = true) → e = 0) := by
  by_cases h : 1 ≤ S.length ∧ S.length ≤ 20
  case neg =>
    obtain ⟨c1, c2⟩ := cost_arg l d S hl hS hok h
    exact ⟨[], 1, c1, c2, fun _ => rfl, fun q => absurd q (by decide), fun q => absurd q h⟩
  by_cases hz : allZero l d S S.length
  case neg =>
    obtain ⟨n, n1, n2⟩ := least_ex (p := fun j => j < S.length ∧ valE l d (nth S j) ≠ 0) (Classical.choose (Classical.not_forall.1 hz)) (by
      have := Classical.choose_spec (Classical.not_forall.1 hz)
      exact Classical.not_imp.1 this)
    have hz' : allZero l d S n := fun j hj => Classical.not_not.1 fun q => n2 j hj ⟨by omega, q⟩
    exact ⟨[], _, cost_fail l d S hl hS hok h n n1.1 hz' n1.2, rcost_fail l d S hl hS hok h n n1.1 hz' n1.2, fun _ => rfl, fun q => absurd q n1.2, fun _ q => absurd q hz⟩
  by_cases hg : ∀ j, j < S.length → goodB (vS l d (nth S j)) = true
  · exact ⟨_, 0, cost_walk l d S hl hS hok h hz S.length (Nat.le_refl _) hg _ 0 (.inl ⟨rfl, rfl, rfl⟩), rcost_walk l d S hl hS hok h hz _ 0 (.inl ⟨rfl, hg, rfl⟩), fun q => absurd rfl q, fun _ => ⟨h, hz, rfl, hg⟩, fun _ _ _ => rfl⟩
  · obtain ⟨n, n1, n2⟩ := least_ex (p := fun j => j < S.length ∧ goodB (vS l d (nth S j)) = false) (Classical.choose (Classical.not_forall.1 hg)) (by
      have := Classical.choose_spec (Classical.not_forall.1 hg)
      have := Classical.not_imp.1 this
      exact ⟨this.1, Bool.not_eq_true _ ▸ this.2⟩)
    have hg' : ∀ j, j < n → goodB (vS l d (nth S j)) = true := fun j hj => by
      have := n2 j hj
      cases e : goodB (vS l d (nth S j)) with
      | true => rfl
      | false => exact absurd ⟨by omega, e⟩ this
    exact ⟨[], 3, cost_walk l d S hl hS hok h hz n (by omega) hg' _ 3 (.inr ⟨rfl, n1.1, n1.2, rfl⟩), rcost_walk l d S hl hS hok h hz _ 3 (.inr ⟨rfl, ⟨n, n1⟩, rfl⟩), fun _ => rfl, fun q => absurd q (by decide), fun _ _ q => absurd q hg⟩
end
end Go.Proofs.Ytgpcmgjdkefdjaa
end
section
set_option linter.unusedVariables false
set_option linter.unusedSimpArgs false
set_option maxHeartbeats 8000000
set_option linter.unusedSectionVars false
namespace Go.Proofs.Ytgpcmgjdkefdjaa
open Lf Go
attribute [local irreducible] PureOp EffOp Ev RG W Then InBlock Lf.Fin nth App InitE Pick SubE EvL EvD EvP EvR ResL Lf.Lex SubR SubBR RA RAll EvC FinO FinM ResM ResD FinS val pw digs trimL
section
def sR : List Rat := [Rat.divInt 1 1, Rat.divInt 9 10, Rat.divInt 1 2]
def sR2 : List Rat := [Rat.divInt 1 1, Rat.divInt 1 3]
theorem sR_ok : (∀ k, k < 3 → 0 < nth sR k ∧ nth sR k ≤ if k = 0 then 1 else nth sR (k - 1)) ∧ (∀ k, k < 2 → 0 < nth sR2 k ∧ nth sR2 k ≤ if k = 0 then 1 else nth sR2 (k - 1)) := by
  constructor
  · intro k hk
    match k, hk with
    | 0, _ => decide +kernel
    | 1, _ => decide +kernel
    | 2, _ => decide +kernel
  · intro k hk
    match k, hk with
    | 0, _ => decide +kernel
    | 1, _ => decide +kernel
theorem bdc {p q : Int} (hp : -1208925819614629174706176 < p ∧ p < 1208925819614629174706176) (hq : -1208925819614629174706176 < q ∧ q < 1208925819614629174706176) (h : q ≠ 0) : bd (Rat.divInt p q) 6 := by
  have e := pw4
  exact bd_mono (bd_div (n := 4) h (by omega) (by omega)) (by omega)
theorem sR_bd : (∀ r ∈ sR, bd r 6) ∧ ∀ r ∈ sR2, bd r 6 := by
  constructor
  · intro r hr
    unfold sR at hr
    rcases List.mem_cons.1 hr with rfl | hr
    · exact bdc (by omega) (by omega) (by omega)
    rcases List.mem_cons.1 hr with rfl | hr
    · exact bdc (by omega) (by omega) (by omega)
    rcases List.mem_cons.1 hr with rfl | hr
    · exact bdc (by omega) (by omega) (by omega)
    · cases hr
  · intro r hr
    unfold sR2 at hr
    rcases List.mem_cons.1 hr with rfl | hr
    · exact bdc (by omega) (by omega) (by omega)
    rcases List.mem_cons.1 hr with rfl | hr
    · exact bdc (by omega) (by omega) (by omega)
    · cases hr
theorem bd6_ok {R : List Rat} (h : ∀ r ∈ R, bd r 6) : ∀ r ∈ R, okF r := fun r hr => bd_ok (h r hr) (by omega)
theorem sFOk : FOk (sR.map fqOf) ∧ FOk (sR2.map fqOf) := ⟨FOk_of (bd6_ok sR_bd.1) (by decide) sR_ok.1, FOk_of (bd6_ok sR_bd.2) (by decide) sR_ok.2⟩
/-- the value with factors that are given as1 numbers -/
def vsumR (R : List Rat) (d : Int) (l : List Fl) : Nat → Rat
  | 0 => 0
  | k + 1 => vsumR R d l k + ((nth l k).amt : Rat) * nth R (yrI d (nth l k)).toNat
theorem vsumR_eq {R : List Rat} (ok : ∀ r ∈ R, okF r) {d : Int} {l : List Fl} (h : ∀ k, k < l.length → (yrI d (nth l k)).toNat < R.length) : ∀ n, n ≤ l.length → vsum (R.map fqOf) d l n = vsumR R d l n
  | 0, _ => rfl
  | n + 1, hn => by
    have hk := h n (by omega)
    rw [vsum, vsumR, vsumR_eq ok h n (by omega), term, nth_fq hk, fqOf_val (ok _ (nth_mem hk))]
def s1 : List Fl := [⟨100, 10⟩, ⟨465, 20⟩, ⟨900, 30⟩]
def s2 : List Fl := [⟨99, 10⟩]
def s3 : List Fl := [⟨1195, 10⟩]
def s4 : List Fl := [⟨500, 5⟩]
theorem s1_vin : VIn s1 100 (sR.map fqOf) := ⟨by decide +kernel, sFOk.1, fewF_of sR_bd.1, by decide +kernel, by decide +kernel⟩
theorem s4_vin : VIn s4 100 (sR.map fqOf) ∧ VIn s4 100 (sR2.map fqOf) := ⟨⟨by decide +kernel, sFOk.1, fewF_of sR_bd.1, by decide +kernel, by decide +kernel⟩, ⟨by decide +kernel, sFOk.2, fewF_of sR_bd.2, by decide +kernel, by decide +kernel⟩⟩
theorem s1_val : vsum (sR.map fqOf) 100 s1 3 = Rat.divInt 43 1 := by
  rw [vsumR_eq (bd6_ok sR_bd.1) (by decide +kernel) 3 (by decide)]
  decide +kernel
theorem s4_val : vsum (sR.map fqOf) 100 s4 1 = Rat.divInt 9 2 ∧ vsum (sR2.map fqOf) 100 s4 1 = Rat.divInt 5 3 := by
  rw [vsumR_eq (bd6_ok sR_bd.1) (by decide +kernel) 1 (by decide), vsumR_eq (bd6_ok sR_bd.2) (by decide +kernel) 1 (by decide)]
  decide +kernel
theorem s_e : valE s2 100 (sR.map fqOf) = 20 ∧ valE s3 100 (sR.map fqOf) = 3 := by
  constructor
  · unfold valE
    rw [if_neg (fun q => q ⟨by decide +kernel, sFOk.1⟩), if_pos (by decide +kernel)]
  · unfold valE
    rw [if_neg (fun q => q ⟨by decide +kernel, sFOk.1⟩), if_neg (by decide +kernel), if_pos (by decide +kernel)]
theorem s_ceil : (ceilR (Rat.divInt 9 2) = 5 ∧ goodB (Rat.divInt 9 2) = true) ∧ (ceilR (Rat.divInt 5 3) = 2 ∧ goodB (Rat.divInt 5 3) = true) := by decide +kernel
def t1 : List Fl := [⟨100, 10⟩]
def t2 : List Fl := [⟨500, 10⟩]
def t3 : List Fl := [⟨100, 10⟩, ⟨500, 5⟩]
def t4 : List Fl := [⟨100, 4⟩, ⟨500, 12⟩]
theorem s_dear : Dear t1 t2 100 ∧ ¬ Dear t2 t1 100 ∧ ¬ Dear t3 t4 100 := by
  have a1 : LIn t1 100 := ⟨by decide +kernel, by decide +kernel⟩
  have a2 : LIn t2 100 := ⟨by decide +kernel, by decide +kernel⟩
  refine ⟨(dear_iff a1 a2).2 fun n hn => ?_, fun q => ?_, fun q => ?_⟩
  · have hn : (n : Int) ≤ 1 := hn
    match n, hn with
    | 0, _ => decide +kernel
    | 1, _ => decide +kernel
  · have := q.2.2 1
    revert this
    decide +kernel
  · have := q.2.2 2
    revert this
    decide +kernel
open Classical in
theorem small_ok : ACalls Try.prog 8 [] (.pv (cB true)) := by
  have ix : ∀ n : Int, (-1000 ≤ n ∧ n ≤ 1000) → i64B n := fun n h => by unfold i64B; omega
  have o1 := of_ok 1 1 (ix _ (by omega)) (ix _ (by omega)) (by omega)
  have o2 := of_ok 9 10 (ix _ (by omega)) (ix _ (by omega)) (by omega)
  have o3 := of_ok 1 2 (ix _ (by omega)) (ix _ (by omega)) (by omega)
  have o4 := of_ok 1 3 (ix _ (by omega)) (ix _ (by omega)) (by omega)
  have o5 := of_ok 43 1 (ix _ (by omega)) (ix _ (by omega)) (by omega)
  have f1 := fewF_of sR_bd.1
  have f2 := fewF_of sR_bd.2
  have v1 := (value_both s1 100 (sR.map fqOf) (by decide) (by decide) (few_FqOk f1) f1).1
  have v2 := (value_both s2 100 (sR.map fqOf) (by decide) (by decide) (few_FqOk f1) f1).1
  have v3 := (value_both s3 100 (sR.map fqOf) (by decide) (by decide) (few_FqOk f1) f1).1
  have e1 := valE_ok s1_vin (addsOk_few s1_vin (by decide))
  rw [show valV s1 100 (sR.map fqOf) = zF (Rat.divInt 43 1) from by unfold valV; rw [if_pos e1]; exact congrArg zF s1_val, e1] at v1
  rw [show valV s2 100 (sR.map fqOf) = zF0 from if_neg (by rw [s_e.1]; decide), s_e.1] at v2
  rw [show valV s3 100 (sR.map fqOf) = zF0 from if_neg (by rw [s_e.2]; decide), s_e.2] at v3
  have z1 := valE_ok s4_vin.1 (addsOk_few s4_vin.1 (by decide))
  have z2 := valE_ok s4_vin.2 (addsOk_few s4_vin.2 (by decide))
  have two : ∀ s, s ∈ [sR.map fqOf, sR2.map fqOf] → s = sR.map fqOf ∨ s = sR2.map fqOf := fun s hs => by simpa using hs
  have so1 : ∀ s ∈ [sR.map fqOf, sR2.map fqOf], fewF s := fun s hs => by
    rcases two s hs with rfl | rfl
    · exact f1
    · exact f2
  have so2 : ∀ s ∈ [sR.map fqOf, sR2.map fqOf], s.length ≤ 9223372036854775807 := fun s hs => by
    rcases two s hs with rfl | rfl <;> decide
  have so : SOk [sR.map fqOf, sR2.map fqOf] := ⟨so1, so2, fun s hs => few_FqOk (so1 s hs)⟩
  have n0 : nth [sR.map fqOf, sR2.map fqOf] 0 = sR.map fqOf := by rw [nth_eq (by simp)]; rfl
  have n1 : nth [sR.map fqOf, sR2.map fqOf] 1 = sR2.map fqOf := by rw [nth_eq (by simp)]; rfl
  obtain ⟨V, e, c1, _, _, c2, c3⟩ := cost_both s4 100 [sR.map fqOf, sR2.map fqOf] (by decide) (by decide) so
  have q1 : vS s4 100 (sR.map fqOf) = Rat.divInt 9 2 := s4_val.1
  have q2 : vS s4 100 (sR2.map fqOf) = Rat.divInt 5 3 := s4_val.2
  have e0 : e = 0 := c3 (by decide) (fun j hj => by
    match j, hj with
    | 0, _ => rw [n0]; exact z1
    | 1, _ => rw [n1]; exact z2) (fun j hj => by
    match j, hj with
    | 0, _ => rw [n0, q1]; exact s_ceil.1.2
    | 1, _ => rw [n1, q2]; exact s_ceil.2.2)
  have eV : V = [5, 2] := by
    rw [(c2 e0).2.2.1]
    simp only [List.map_cons, List.map_nil, q1, q2, s_ceil.1.1, s_ceil.2.1]
  subst e0 eV
  have i1 := ints_same [5, 2] (by decide)
  have m1 := same_any (sgn (Rat.divInt 43 1).num) (digs (mag (Rat.divInt 43 1).num)) (sgn (Rat.divInt 43 1).den) (digs (mag (Rat.divInt 43 1).den)) (by have := num_len (okF_of (x := 43) (y := 1) (i64_ok (ix _ (by omega))) (i64_ok (ix _ (by omega))) (by omega)).1; omega) (by have := num_len (okF_of (x := 43) (y := 1) (i64_ok (ix _ (by omega))) (i64_ok (ix _ (by omega))) (by omega)).2; omega)
  have d1 := dearer_ok t1 t2 100 (by decide) (by decide) true (by simp [s_dear.1])
  have d2 := dearer_ok t2 t1 100 (by decide) (by decide) false (by simp [s_dear.2.1])
  have d3 := dearer_ok t3 t4 100 (by decide) (by decide) false (by simp [s_dear.2.2])
  have k1 := pfac_ok (sR.map fqOf) (by decide) (few_FqOk f1) true (by simp [sFOk.1])
  have k2 := pfac_ok [] (by decide) (fun q hq => by cases hq) false (by simp [FOk])
  rw [show slF (sR.map fqOf) = slQ sR from by rw [slF, slF_of]] at v1 v2 v3 k1
  rw [show slS [sR.map fqOf, sR2.map fqOf] = .one (.sl [[.sl (sR.map encQ)], [.sl (sR2.map encQ)]]) from by rw [slS]; simp only [List.map_cons, List.map_nil, encS, slF_of]] at c1
  clear c2 c3 q1 q2 two so1 so2 n0 n1 so z1 z2 f1 f2 e1 ix
  unfold sR at v1 v2 v3 k1 c1
  unfold sR2 at c1
  unfold s1 at v1
  unfold s2 at v2
  unfold s3 at v3
  unfold s4 at c1
  unfold t1 t2 at d1 d2
  unfold t3 t4 at d3
  generalize Rat.divInt 1 1 = r1 at *
  generalize Rat.divInt 9 10 = r2 at *
  generalize Rat.divInt 1 2 = r3 at *
  generalize Rat.divInt 1 3 = r4 at *
  generalize Rat.divInt 43 1 = r5 at *
  refine ACalls.of_W (qs := [cB true]) [0] 116 Try.func8 (by kernel_rfl) rfl rfl rfl fun G => ?_
  refine W.initA (hw := ?_)
  repeat' (first | (refine W.weaken (Le.freeze1 (m := 51) rfl) ?_; apply W.region (id := 8)) | ((first | apply U_ | (apply Ug_; exact rfl; exact rfl) | (apply Ugq_; exact rfl; exact rfl)); (first | (apply Q_litD TYok; apply EvR.cons Ev.auto; (repeat (first | exact EvR.nil | apply EvR.cons Ev.auto)); exact rfl; exact rfl; exact rfl; exact rfl; exact rfl; exact rfl) | exact QX.B TYok | exact QX.Ext TYok | exact QX.Build TYok | exact QCd (o1) | exact QCd (o2) | exact QCd (o3) | exact QCd (o4) | exact QCd (o5) | exact QCd (v1) | exact QCd (v2) | exact QCd (v3) | exact QCd (c1) | exact QCd (i1) | exact QCd (m1) | exact QCd (d1) | exact QCd (d2) | exact QCd (d3) | exact QCd (k1) | exact QCd (k2)); exact rfl) | refine SX.Alloc TYok (h := ?_) | refine SX.Store TYok (h := ?_) | refine SX.Lit TYok (h := ?_) | refine SX.App TYok (h := ?_) | (apply S_appendd TYok; exact Ev.auto; exact Ev.auto; exact rfl; exact rfl; exact rfl; exact rfl; exact rfl; exact rfl; exact rfl; exact rfl; (intro r hr; first | (obtain ⟨_, _, rfl⟩ := List.mem_map.1 hr; rfl) | (obtain rfl := List.mem_singleton.1 hr; rfl)); (constructor <;> simp <;> omega); exact rfl) | refine SC ?_ | (apply S_isnil TYok; exact rfl; exact rfl; exact rfl; exact Ev.auto; intro bn hnil) | refine SG ?_ | (refine W.drawA (id := 10) (L := [false, false, false, false, false, false, false, false, false, false, false, false, false, false, false, false, false, false, false, false, false, false, false, false, false]) mixed rfl ?_) | exact RAll.nil | (refine RAll.cons rfl ?_ ?_) | (refine RA.step (L := [false, false, false, false, false, false, false, false, false, false, false, false, false, false, false, false, false, false, false, false, false, false, false, false, false]) (i := 0) (is := []) (by kernel_rfl) ?_) | (refine RA.step (L := [true, false, false, false, false, false, false, false, false, false, false, false, false, false, false, false, false, false, false, false, false, false, false, false, false]) (i := 1) (is := []) (by kernel_rfl) ?_) | (refine RA.step (L := [true, true, false, false, false, false, false, false, false, false, false, false, false, false, false, false, false, false, false, false, false, false, false, false, false]) (i := 2) (is := []) (by kernel_rfl) ?_) | (refine RA.step (L := [true, true, true, false, false, false, false, false, false, false, false, false, false, false, false, false, false, false, false, false, false, false, false, false, false]) (i := 3) (is := [4]) (by kernel_rfl) ?_) | (refine RA.step (L := [true, true, true, false, true, false, false, false, false, false, false, false, false, false, false, false, false, false, false, false, false, false, false, false, false]) (i := 3) (is := []) (by kernel_rfl) ?_) | (refine RA.step (L := [true, true, true, true, true, false, false, false, false, false, false, false, false, false, false, false, false, false, false, false, false, false, false, false, false]) (i := 5) (is := []) (by kernel_rfl) ?_) | (refine RA.step (L := [true, true, true, true, true, true, false, false, false, false, false, false, false, false, false, false, false, false, false, false, false, false, false, false, false]) (i := 6) (is := []) (by kernel_rfl) ?_) | (refine RA.step (L := [true, true, true, true, true, true, true, false, false, false, false, false, false, false, false, false, false, false, false, false, false, false, false, false, false]) (i := 7) (is := []) (by kernel_rfl) ?_) | (refine RA.step (L := [true, true, true, true, true, true, true, true, false, false, false, false, false, false, false, false, false, false, false, false, false, false, false, false, false]) (i := 8) (is := []) (by kernel_rfl) ?_) | (refine RA.step (L := [true, true, true, true, true, true, true, true, true, false, false, false, false, false, false, false, false, false, false, false, false, false, false, false, false]) (i := 9) (is := []) (by kernel_rfl) ?_) | (refine RA.step (L := [true, true, true, true, true, true, true, true, true, true, false, false, false, false, false, false, false, false, false, false, false, false, false, false, false]) (i := 10) (is := []) (by kernel_rfl) ?_) | (refine RA.step (L := [true, true, true, true, true, true, true, true, true, true, true, false, false, false, false, false, false, false, false, false, false, false, false, false, false]) (i := 11) (is := []) (by kernel_rfl) ?_) | (refine RA.step (L := [true, true, true, true, true, true, true, true, true, true, true, true, false, false, false, false, false, false, false, false, false, false, false, false, false]) (i := 12) (is := []) (by kernel_rfl) ?_) | (refine RA.step (L := [true, true, true, true, true, true, true, true, true, true, true, true, true, false, false, false, false, false, false, false, false, false, false, false, false]) (i := 13) (is := []) (by kernel_rfl) ?_) | (refine RA.step (L := [true, true, true, true, true, true, true, true, true, true, true, true, true, true, false, false, false, false, false, false, false, false, false, false, false]) (i := 14) (is := []) (by kernel_rfl) ?_) | (refine RA.step (L := [true, true, true, true, true, true, true, true, true, true, true, true, true, true, true, false, false, false, false, false, false, false, false, false, false]) (i := 15) (is := []) (by kernel_rfl) ?_) | (refine RA.step (L := [true, true, true, true, true, true, true, true, true, true, true, true, true, true, true, true, false, false, false, false, false, false, false, false, false]) (i := 16) (is := []) (by kernel_rfl) ?_) | (refine RA.step (L := [true, true, true, true, true, true, true, true, true, true, true, true, true, true, true, true, true, false, false, false, false, false, false, false, false]) (i := 17) (is := []) (by kernel_rfl) ?_) | (refine RA.step (L := [true, true, true, true, true, true, true, true, true, true, true, true, true, true, true, true, true, true, false, false, false, false, false, false, false]) (i := 18) (is := []) (by kernel_rfl) ?_) | (refine RA.step (L := [true, true, true, true, true, true, true, true, true, true, true, true, true, true, true, true, true, true, true, false, false, false, false, false, false]) (i := 19) (is := []) (by kernel_rfl) ?_) | (refine RA.step (L := [true, true, true, true, true, true, true, true, true, true, true, true, true, true, true, true, true, true, true, true, false, false, false, false, false]) (i := 20) (is := [21]) (by kernel_rfl) ?_) | (refine RA.step (L := [true, true, true, true, true, true, true, true, true, true, true, true, true, true, true, true, true, true, true, true, false, true, false, false, false]) (i := 20) (is := []) (by kernel_rfl) ?_) | (refine RA.step (L := [true, true, true, true, true, true, true, true, true, true, true, true, true, true, true, true, true, true, true, true, true, true, false, false, false]) (i := 22) (is := []) (by kernel_rfl) ?_) | (refine RA.step (L := [true, true, true, true, true, true, true, true, true, true, true, true, true, true, true, true, true, true, true, true, true, true, true, false, false]) (i := 23) (is := []) (by kernel_rfl) ?_) | (refine RA.step (L := [true, true, true, true, true, true, true, true, true, true, true, true, true, true, true, true, true, true, true, true, true, true, true, true, false]) (i := 24) (is := []) (by kernel_rfl) ?_) | (refine RA.done (L := [true, true, true, true, true, true, true, true, true, true, true, true, true, true, true, true, true, true, true, true, true, true, true, true, true]) (by kernel_rfl) ?_) | (refine RA.step (L := [true, true, true, true, true, true, true, true, true, true, true, true, true, true, true, true, true, true, true, true, true, false, false, false, false]) (i := 21) (is := []) (by kernel_rfl) ?_) | (refine RA.step (L := [true, true, true, true, false, false, false, false, false, false, false, false, false, false, false, false, false, false, false, false, false, false, false, false, false]) (i := 4) (is := []) (by kernel_rfl) ?_) | (refine W.condA (ht := fun hb => ?_) (hf := fun hb => ?_) <;> (try simp at hb) <;> (try (exfalso; omega))))
  all_goals first
    | exact Fin.ret ResL.auto
    | trace_state
end
end Go.Proofs.Ytgpcmgjdkefdjaa
end
section
set_option linter.unusedVariables false
set_option linter.unusedSimpArgs false
namespace Lf
open Go Go.RowKit
abbrev MNode := List Bool × List (Nat × Nat)
section
variable {P : Program} {G : Ghost} {ops : Array Oper} {Ss : List St} {Q : St → Prop}
def MG (P : Program) (G : Ghost) (ops : Array Oper) (Ss : List St) : List (Nat × Nat) → St → Prop
  | [], _ => True
  | (i, t) :: r, S => (∃ o S', ops[i]? = some o ∧ Ss[t]? = some S' ∧ RG P G ops [o] (fun A' => Le A' S') S) ∧ MG P G ops Ss r S
def MN (P : Program) (G : Ghost) (ops : Array Oper) (Ss : List St) : List MNode → List St → Prop
  | (_, es) :: r, S :: Sr => MG P G ops Ss es S ∧ MN P G ops Ss r Sr
  | _, _ => True
theorem MG.nil {S : St} : MG P G ops Ss [] S := trivial
theorem MG.cons {i t : Nat} {o : Oper} {S S' : St} {es : List (Nat × Nat)} (ho : ops[i]? = some o) (hS : Ss[t]? = some S') (h : RG P G ops [o] (fun A' => Le A' S') S) (h' : MG P G ops Ss es S) : MG P G ops Ss ((i, t) :: es) S := ⟨⟨o, S', ho, hS, h⟩, h'⟩
theorem MN.nil {Sr : List St} : MN P G ops Ss [] Sr := by unfold MN; trivial
theorem MN.cons {L : List Bool} {es : List (Nat × Nat)} {S : St} {r : List MNode} {Sr : List St} (h : MG P G ops Ss es S) (h' : MN P G ops Ss r Sr) : MN P G ops Ss ((L, es) :: r) (S :: Sr) := ⟨h, h'⟩
theorem MG.get : ∀ {es : List (Nat × Nat)} {S : St}, MG P G ops Ss es S → ∀ i t, (i, t) ∈ es → ∃ o S', ops[i]? = some o ∧ Ss[t]? = some S' ∧ RG P G ops [o] (fun A' => Le A' S') S
  | (i0, t0) :: es, S, h, i, t, hm => by
    rcases List.mem_cons.1 hm with e | hm
    · cases e; exact h.1
    · exact MG.get h.2 i t hm
theorem MN.get : ∀ {nodes : List MNode} {Sr : List St}, MN P G ops Ss nodes Sr → ∀ (k : Nat) (L : List Bool) (es : List (Nat × Nat)) (S : St), nodes[k]? = some (L, es) → Sr[k]? = some S → MG P G ops Ss es S
  | (L0, es0) :: r, S0 :: Sr, h, 0, L, es, S, h1, h2 => by
    simp at h1 h2
    obtain ⟨rfl, rfl⟩ := h1
    subst h2
    exact h.1
  | (L0, es0) :: r, S0 :: Sr, h, k + 1, L, es, S, h1, h2 => MN.get h.2 k L es S (by simpa using h1) (by simpa using h2)
  | [], _, _, k, L, es, S, h1, _ => by simp at h1
  | _ :: _, [], _, k, L, es, S, _, h2 => by simp at h2
theorem count_setM : ∀ {L : List Bool} {i : Nat}, L.getD i true = false → (L.set i true).count false + 1 = L.count false
  | [], i, h => by simp at h
  | b :: L, 0, h => by simp at h; subst h; simp
  | b :: L, i + 1, h => by
    have := count_setM (L := L) (i := i) (by simpa using h)
    simp only [List.set_cons_succ, List.count_cons]; omega
/-- the graph: what is ready at each set, and where each step leads -/
def memoOk (ops : Array Oper) (nodes : List MNode) : Bool :=
  nodes.all (fun e => Region.ready .any ops e.1.toArray == e.2.map (·.1) && e.2.all (fun x => (e.1.getD x.1 true == false) && (match nodes[x.2]? with | some e' => e'.1 == e.1.set x.1 true | none => false)) && (!e.2.isEmpty || e.1.count false == 0))
  && (List.range nodes.length).all (fun k => match nodes[k]? with | some e => !e.2.isEmpty || k + 1 == nodes.length | none => true)
theorem RA.memo {nodes : List MNode} (hk : memoOk ops nodes = true) (hlen : Ss.length = nodes.length) (h : MN P G ops Ss nodes Ss) (hQ : ∀ S, Ss[nodes.length - 1]? = some S → Q S) :
    ∀ (fuel k : Nat) (L : List Bool) (es : List (Nat × Nat)) (S : St), nodes[k]? = some (L, es) → Ss[k]? = some S → L.count false = fuel → RA P G ops fuel L Q S := by
  unfold memoOk at hk
  rw [Bool.and_eq_true] at hk
  obtain ⟨hk1, hk2⟩ := hk
  have at' : ∀ k L es, nodes[k]? = some (L, es) → Region.ready .any ops L.toArray = es.map (·.1) ∧ (∀ i t, (i, t) ∈ es → L.getD i true = false ∧ ∃ es', nodes[t]? = some (L.set i true, es')) ∧ (es = [] → L.count false = 0 ∧ k + 1 = nodes.length) := fun k L es hn => by
    have h1 := List.all_eq_true.1 hk1 _ (List.mem_of_getElem? hn)
    have hkl := (List.getElem?_eq_some_iff.1 hn).1
    have h2 := List.all_eq_true.1 hk2 k (List.mem_range.2 hkl)
    rw [hn] at h2
    simp only [Bool.and_eq_true, beq_iff_eq, Bool.or_eq_true, Bool.not_eq_true', List.all_eq_true] at h1 h2
    obtain ⟨⟨a1, a2⟩, a3⟩ := h1
    refine ⟨a1, fun i t hm => ?_, fun e => ?_⟩
    · obtain ⟨b1, b2⟩ := a2 (i, t) hm
      refine ⟨b1, ?_⟩
      cases hn' : nodes[t]? with
      | none => rw [hn'] at b2; simp at b2
      | some e' =>
        rw [hn'] at b2
        simp only [beq_iff_eq] at b2
        exact ⟨e'.2, by rw [← b2]⟩
    · subst e
      simp at a3 h2
      exact ⟨a3, h2⟩
  intro fuel
  induction fuel with
  | zero =>
    intro k L es S hn hS hc
    obtain ⟨h1, h2, h3⟩ := at' k L es hn
    have he : es = [] := by
      cases es with
      | nil => rfl
      | cons x es =>
        have := count_setM (h2 x.1 x.2 (by simp)).1
        omega
    subst he
    have := (h3 rfl).2
    exact RA.done h1 (hQ S (by rw [show nodes.length - 1 = k by omega]; exact hS))
  | succ fuel ih =>
    intro k L es S hn hS hc
    obtain ⟨h1, h2, h3⟩ := at' k L es hn
    have hg := h.get k L es S hn hS
    cases es with
    | nil => have := (h3 rfl).1; omega
    | cons x0 es0 =>
      refine RA.step (i := x0.1) (is := es0.map fun x => x.1) (by rw [h1]; rfl) ?_
      have key : ∀ js : List (Nat × Nat), (∀ x ∈ js, x ∈ x0 :: es0) → RAll P G ops fuel L Q S (js.map (·.1)) := by
        intro js
        induction js with
        | nil => intro _; exact RAll.nil
        | cons j js ihj =>
          intro hjs
          have hj := hjs j (by simp)
          obtain ⟨o, S', ho, hS', hr⟩ := hg.get j.1 j.2 hj
          obtain ⟨b1, es', b2⟩ := h2 j.1 j.2 hj
          have hcs := count_setM b1
          refine RAll.cons ho (fun Φ β a w hs Q' hq => hr Φ β a w hs Q' fun A1 Φ1 β1 a1 w1 q1 s1 l1 => ?_) (ihj fun i hi => hjs i (List.mem_cons_of_mem _ hi))
          refine hq A1 Φ1 β1 a1 w1 ?_ s1 l1
          intro Φ2 β2 a2 w2 hs2 Q2 hq2
          obtain ⟨Φ3, β3, l3, s3⟩ := q1 G Φ2 β2 a2 w2 hs2
          exact ih j.2 (L.set j.1 true) es' S' b2 hS' (by omega) Φ3 β3 a2 w2 s3 Q2 fun A4 Φ4 β4 a4 w4 q4 s4 l4 => hq2 A4 Φ4 β4 a4 w4 q4 s4 (Frz.le_trans l3 l4)
      exact key _ fun i hi => hi
theorem W.drawM {id : Nat} {l : List Oper} {Q : Exit → St → Prop} {A S0 Sn : St} {Sr : List St} {L0 : List Bool} {es0 : List (Nat × Nat)} {nr : List MNode} (nodes : List MNode) (Ss : List St) (hm : P.follows .mixedOrders = true) (hk : memoOk l.toArray nodes = true) (hn : nodes = (L0, es0) :: nr) (hL : List.replicate l.length false = L0) (hS : Ss = S0 :: Sr) (hlen : Nat.beq Ss.length nodes.length = true)
    (hl : Le A S0) (h : MN P G l.toArray Ss nodes Ss) (he : Ss[nodes.length - 1]? = some Sn) (hQ : Q .normal Sn) : W P G (.region id l.toArray true) Q A := by
  refine W.weaken hl (W.drawA hm hL ?_)
  exact RA.memo (Q := Q .normal) hk (Nat.eq_of_beq_eq_true hlen) h (fun S hS' => by rw [he] at hS'; cases hS'; exact hQ) l.length 0 L0 es0 S0 (by rw [hn]; rfl) (by rw [hS]; rfl) (by rw [← hL]; simp)
end
theorem Le.get {A B : St} (hn : B.n = A.n) (he : ∀ t q v, lk B.env t = some (q, v) → lk A.env t = some (q, v) ∧ NameOK A.blks B.blks v) (hb : ∀ n C, lk B.blks n = some C → lk A.blks n = some C) : Le A B := fun G Φ β a w hs => by
  refine ⟨Φ, β, Φ.le_refl, hs.kept, hs.fits, hs.old, by rw [hn]; exact hs.siz, hs.dfr, fun t q v h => ?_, fun n C b cap h1 h2 => hs.blk n C b cap (hb _ _ h1) h2, fun n C h1 h2 => hs.vir n C (hb _ _ h1) h2, fun n n' C C' b c c' h1 h2 h3 h4 => hs.inj n n' C C' b c c' (hb _ _ h1) (hb _ _ h2) h3 h4⟩
  obtain ⟨h1, h2⟩ := he t q v h
  refine ⟨fun hq => ?_, (hs.env t q v h1).2⟩
  have h3 := (hs.env t q v h1).1 hq
  cases v with
  | pv p => exact h3
  | tup l => exact h3
  | top => trivial
  | addr n i off =>
    obtain ⟨b, cap, C, g1, g2, g3⟩ := h3
    exact ⟨b, cap, C, g1, by rw [show lk B.blks n = lk A.blks n from h2]; exact g2, g3⟩
  | slc n =>
    obtain ⟨C, g2, g3⟩ := h3
    exact ⟨C, by rw [show lk B.blks n = lk A.blks n from h2]; exact g2, g3⟩
  | mp n =>
    obtain ⟨b, cap, C, g1, g2, g3⟩ := h3
    exact ⟨b, cap, C, g1, by rw [show lk B.blks n = lk A.blks n from h2]; exact g2, g3⟩
  | itr d n =>
    obtain ⟨b, cap, C, M, c, g1, g2, g3, g4, g5, g6⟩ := h3
    exact ⟨b, cap, C, M, c, g1, by rw [h2.1]; exact g2, g3, g4, by rw [h2.2]; exact g5, g6⟩
  | pin n b0 c0 f =>
    obtain ⟨C, g1, g2, g3⟩ := h3
    exact ⟨C, g1, by rw [show lk B.blks n = lk A.blks n from h2]; exact g2, g3⟩
def SubEK (A : St) (bl' : List (Nat × Blk)) : List Nat → List (Nat × (Prop × AV)) → Prop
  | _, [] => True
  | seen, (t, (q, v)) :: r => (t ∈ seen ∨ (lk A.env t = some (q, v) ∧ NameOK A.blks bl' v)) ∧ SubEK A bl' (t :: seen) r
def SubBK (A : St) : List Nat → List (Nat × Blk) → Prop
  | _, [] => True
  | seen, (n, B) :: r => (n ∈ seen ∨ lk A.blks n = some B) ∧ SubBK A (n :: seen) r
theorem SubEK.get {A : St} {bl' : List (Nat × Blk)} : ∀ {env : List (Nat × (Prop × AV))} {seen : List Nat}, SubEK A bl' seen env → ∀ t q v, t ∉ seen → lk env t = some (q, v) → lk A.env t = some (q, v) ∧ NameOK A.blks bl' v
  | [], _, _, t, q, v, _, h => by simp [lk] at h
  | (s, (q0, v0)) :: r, seen, hs, t, q, v, hns, h => by
    rw [lk_cons] at h
    split at h
    · rename_i e; subst e
      simp only [Option.some.injEq, Prod.mk.injEq] at h
      obtain ⟨rfl, rfl⟩ := h
      rcases hs.1 with h1 | h1
      · exact absurd h1 hns
      · exact h1
    · rename_i e
      exact SubEK.get hs.2 t q v (fun hm => (List.mem_cons.1 hm).elim (fun q => e q.symm) hns) h
theorem SubBK.get {A : St} : ∀ {bl : List (Nat × Blk)} {seen : List Nat}, SubBK A seen bl → ∀ n B, n ∉ seen → lk bl n = some B → lk A.blks n = some B
  | [], _, _, n, B, _, h => by simp [lk] at h
  | (m, B0) :: r, seen, hs, n, B, hns, h => by
    rw [lk_cons] at h
    split at h
    · rename_i e; subst e
      obtain rfl := Option.some.inj h
      rcases hs.1 with h1 | h1
      · exact absurd h1 hns
      · exact h1
    · rename_i e
      exact SubBK.get hs.2 n B (fun hm => (List.mem_cons.1 hm).elim (fun q => e q.symm) hns) h
theorem Le.st {A : St} {n : Nat} {env : List (Nat × (Prop × AV))} {bl : List (Nat × Blk)} (hn : n = A.n) (he : SubEK A bl [] env) (hb : SubBK A [] bl) : Le A (St.mk n env bl) :=
  Le.get (B := St.mk n env bl) hn (fun t q v h => he.get t q v (by simp) h) (fun n B h => hb.get n B (by simp) h)
theorem SubEK.nil {A : St} {bl : List (Nat × Blk)} {seen : List Nat} : SubEK A bl seen [] := trivial
theorem SubEK.one {A : St} {bl : List (Nat × Blk)} {seen : List Nat} {t : Nat} {q : Prop} {v : AV} {r : List (Nat × (Prop × AV))} (h : lk A.env t = some (q, v)) (hn : NameOK A.blks bl v) (hr : SubEK A bl (t :: seen) r) : SubEK A bl seen ((t, (q, v)) :: r) := ⟨.inr ⟨h, hn⟩, hr⟩
theorem SubBK.nil {A : St} {seen : List Nat} : SubBK A seen [] := trivial
theorem SubBK.one {A : St} {seen : List Nat} {n : Nat} {B : Blk} {r : List (Nat × Blk)} (h : lk A.blks n = some B) (hr : SubBK A (n :: seen) r) : SubBK A seen ((n, B) :: r) := ⟨.inr h, hr⟩
theorem SubBK.skip {A : St} {seen : List Nat} {n : Nat} {B : Blk} {r : List (Nat × Blk)} (h : seen.any (Nat.beq n) = true) (hr : SubBK A (n :: seen) r) : SubBK A seen ((n, B) :: r) := ⟨.inl (by
  obtain ⟨x, hx, he⟩ := List.any_eq_true.1 h
  rw [Nat.eq_of_beq_eq_true he]; exact hx), hr⟩
attribute [irreducible] SubEK SubBK
attribute [irreducible] MG MN
end Lf
end
section
set_option linter.unusedVariables false
set_option linter.unusedSimpArgs false
set_option maxHeartbeats 8000000
set_option linter.unusedSectionVars false
namespace Go.Proofs.Ytgpcmgjdkefdjaa
open Lf Go
attribute [local irreducible] PureOp EffOp Ev RG W Then InBlock Lf.Fin nth App InitE Pick SubE EvL EvD EvP EvR ResL Lf.Lex SubR SubBR RA RAll EvC FinO FinM ResM ResD FinS val pw digs trimL
section
theorem dear_trans {a b c : List Fl} {d : Int} (h : Dear a b d) (k : Dear b c d) : Dear a c d := ⟨h.1, k.2.1, fun n => Int.le_trans (k.2.2 n) (h.2.2 n)⟩
theorem dear_refl {a : List Fl} {d : Int} (h : LIn a d) : Dear a a d := ⟨h, h, fun n => Int.le_refl _⟩
theorem flowsB_app {a b : List Fl} {d : Int} (h : flowsB a d = true) (k : flowsB b d = true) (hl : a.length + b.length ≤ 400) : flowsB (a ++ b) d = true := by
  unfold flowsB at h k ⊢
  simp only [Bool.and_eq_true, decide_eq_true_iff, List.all_append, List.length_append] at h k ⊢
  exact ⟨⟨h.1.1, by omega⟩, h.2, k.2⟩
theorem dear_more {a b : List Fl} {d : Int} {x : Fl} (h : Dear a b d) (hl : a.length ≤ 20) (hx : (d ≤ x.day ∧ x.day ≤ 200000) ∧ (0 ≤ x.amt ∧ x.amt ≤ 1000000000000000)) : Dear (a ++ [x]) b d := by
  have fx := flowsB_yes h.1.fl
  have f1 : flowsB [x] d = true := by
    unfold flowsB
    simp only [Bool.and_eq_true, decide_eq_true_iff, List.all_cons, List.all_nil, Bool.and_true, okW_iff, List.length_cons, List.length_nil]
    omega
  refine ⟨⟨flowsB_app h.1.fl f1 (by simp; omega), fun f hf => ?_⟩, h.2.1, fun n => ?_⟩
  · rcases List.mem_append.1 hf with q | q
    · exact h.1.early f q
    · obtain rfl := List.mem_singleton.1 q
      exact hx.1.1
  · have := h.2.2 n
    rw [Uof_snoc]
    split <;> omega
theorem dear_both {a b : List Fl} {d : Int} (h : Dear a b d) (k : Dear b a d) (n : Nat) : Uof d a n = Uof d b n := Int.le_antisymm (k.2.2 n) (h.2.2 n)
open Classical in
theorem order_few (a b c : List Fl) (d : Int) (x : Fl) (hla : a.length ≤ 9223372036854775807) (hlb : b.length ≤ 9223372036854775807) (hlc : c.length ≤ 9223372036854775807) (h : ¬ ((a.length ≤ 20 ∧ b.length ≤ 20) ∧ c.length ≤ 20)) :
    ACalls Try.prog 6 [slW a, slW b, slW c, cI d, aW x] (.pv (cB true)) := by
  have h0 := small_ok
  have f1 := few_ok a [] hla (by decide) (decide (a.length ≤ 20)) (by simp [fewF])
  have f2 := few_ok b [] hlb (by decide) (decide (b.length ≤ 20)) (by simp [fewF])
  have f3 := few_ok c [] hlc (by decide) (decide (c.length ≤ 20)) (by simp [fewF])
  have hbad : (decide (a.length ≤ 20) = true ∧ decide (b.length ≤ 20) = true) ∧ decide (c.length ≤ 20) = true → False := fun q => h ⟨⟨of_decide_eq_true q.1.1, of_decide_eq_true q.1.2⟩, of_decide_eq_true q.2⟩
  generalize decide (a.length ≤ 20) = b1 at *
  generalize decide (b.length ≤ 20) = b2 at *
  generalize decide (c.length ≤ 20) = b3 at *
  refine ACalls.of_W (qs := [cB true]) [10] 136 Try.func6 (by kernel_rfl) rfl rfl rfl fun G => ?_
  refine W.initA (hw := ?_)
  repeat' (first | ((first | apply U_ | (apply Ug_; exact rfl; exact rfl) | (apply Ugq_; exact rfl; exact rfl)); (first | exact QX.B TYok | exact QX.Ext TYok | exact QCd (h0) | exact QCd (f1) | exact QCd (f2) | exact QCd (f3)); exact rfl) | refine SX.Lit TYok (h := ?_) | refine SX.App TYok (h := ?_) | refine SX.Box TYok (h := ?_) | refine SC ?_ | refine SG ?_ | (refine W.drawA (id := 7) (L := [false, false, false, false, false, false, false]) mixed rfl ?_) | exact RAll.nil | (refine RAll.cons rfl ?_ ?_) | (refine RA.step (L := [false, false, false, false, false, false, false]) (i := 0) (is := [1, 3]) (by kernel_rfl) ?_) | (refine RA.step (L := [false, false, false, true, false, false, false]) (i := 0) (is := [1, 4]) (by kernel_rfl) ?_) | (refine RA.step (L := [false, false, false, true, true, false, false]) (i := 0) (is := [1]) (by kernel_rfl) ?_) | (refine RA.step (L := [false, true, false, true, true, false, false]) (i := 0) (is := []) (by kernel_rfl) ?_) | (refine RA.step (L := [true, true, false, true, true, false, false]) (i := 2) (is := []) (by kernel_rfl) ?_) | (refine RA.step (L := [true, true, true, true, true, false, false]) (i := 5) (is := []) (by kernel_rfl) ?_) | (refine RA.step (L := [true, true, true, true, true, true, false]) (i := 6) (is := []) (by kernel_rfl) ?_) | (refine RA.done (L := [true, true, true, true, true, true, true]) (by kernel_rfl) ?_) | (refine RA.step (L := [true, false, false, true, true, false, false]) (i := 1) (is := []) (by kernel_rfl) ?_) | (refine RA.step (L := [false, true, false, true, false, false, false]) (i := 0) (is := [4]) (by kernel_rfl) ?_) | (refine RA.step (L := [true, true, false, true, false, false, false]) (i := 2) (is := [4]) (by kernel_rfl) ?_) | (refine RA.step (L := [true, true, true, true, false, false, false]) (i := 4) (is := []) (by kernel_rfl) ?_) | (refine RA.step (L := [true, false, false, true, false, false, false]) (i := 1) (is := [4]) (by kernel_rfl) ?_) | (refine RA.step (L := [false, true, false, false, false, false, false]) (i := 0) (is := [3]) (by kernel_rfl) ?_) | (refine RA.step (L := [true, true, false, false, false, false, false]) (i := 2) (is := [3]) (by kernel_rfl) ?_) | (refine RA.step (L := [true, true, true, false, false, false, false]) (i := 3) (is := []) (by kernel_rfl) ?_) | (refine RA.step (L := [true, false, false, false, false, false, false]) (i := 1) (is := [3]) (by kernel_rfl) ?_) | (refine W.condA (ht := fun hb => ?_) (hf := fun hb => ?_) <;> (try simp at hb) <;> (try (exfalso; first | exact hbad hb | omega))))
  all_goals first
    | exact Fin.ret ResL.auto
    | trace_state
open Classical in
theorem order_not (a b c : List Fl) (d : Int) (x : Fl) (hla : a.length ≤ 9223372036854775807) (hlb : b.length ≤ 9223372036854775807) (hlc : c.length ≤ 9223372036854775807) (h1 : a.length ≤ 20) (h2 : b.length ≤ 20) (h3 : c.length ≤ 20) (k1 : ¬ Dear a b d) :
    ACalls Try.prog 6 [slW a, slW b, slW c, cI d, aW x] (.pv (cB true)) := by
  have h0 := small_ok
  have f1 := few_ok a [] hla (by decide) (decide (a.length ≤ 20)) (by simp [fewF])
  have f2 := few_ok b [] hlb (by decide) (decide (b.length ≤ 20)) (by simp [fewF])
  have f3 := few_ok c [] hlc (by decide) (decide (c.length ≤ 20)) (by simp [fewF])
  rw [decide_eq_true h1] at f1
  rw [decide_eq_true h2] at f2
  rw [decide_eq_true h3] at f3
  have d1 := dearer_ok a b d hla hlb (decide (Dear a b d)) (by simp)
  have d2 := dearer_ok b c d hlb hlc (decide (Dear b c d)) (by simp)
  have d3 := dearer_ok a c d hla hlc (decide (Dear a c d)) (by simp)
  have d4 := dearer_ok a a d hla hla (decide (Dear a a d)) (by simp)
  have d5 := dearer_ok b b d hlb hlb (decide (Dear b b d)) (by simp)
  have d6 := dearer_ok (a ++ [x]) b d (by simp; omega) hlb (decide (Dear (a ++ [x]) b d)) (by simp)
  have d7 := dearer_ok b a d hlb hla (decide (Dear b a d)) (by simp)
  rw [show slW (a ++ [x]) = .one (.sl (a.map encW ++ [encW x])) from by rw [slW, List.map_append]; rfl] at d6
  rw [decide_eq_false k1] at d1
  generalize decide (Dear b c d) = b2 at *
  generalize decide (Dear a c d) = b3 at *
  generalize decide (Dear a a d) = b4 at *
  generalize decide (Dear b b d) = b5 at *
  generalize decide (Dear (a ++ [x]) b d) = b6 at *
  generalize decide (Dear b a d) = b7 at *
  refine ACalls.of_W (qs := [cB true]) [10] 136 Try.func6 (by kernel_rfl) rfl rfl rfl fun G => ?_
  refine W.initA (hw := ?_)
  repeat' (first | (refine W.weaken (Le.freeze1 (m := 74) rfl) ?_; apply W.region (id := 8)) | (refine W.cutR 5 136 [0, 1, 2, 3, 11, 12] [(68, (True, .pv (cB false))), (9, (True, .addr 9 0 0))] [(9, ⟨44, 2, [encW x]⟩)] (by repeat (first | exact Pick.nil | apply Pick.cons rfl)) ?_ (W.norm (by repeat (first | exact App.nil | apply App.cons)) ?_)) | (refine W.cutR 7 136 [0, 1, 2, 3, 11, 12] [(13, (True, .slc 74)), (9, (True, .addr 9 0 0))] [(9, ⟨44, 2, [encW x]⟩), (74, ⟨44, 2, a.map encW ++ [encW x]⟩)] (by repeat (first | exact Pick.nil | apply Pick.cons rfl)) ?_ (W.norm (by repeat (first | exact App.nil | apply App.cons)) ?_)) | (refine Le.auto) | ((first | apply U_ | (apply Ug_; exact rfl; exact rfl) | (apply Ugq_; exact rfl; exact rfl)); (first | (apply Q_litD TYok; apply EvR.cons Ev.auto; (repeat (first | exact EvR.nil | apply EvR.cons Ev.auto)); exact rfl; exact rfl; exact rfl; exact rfl; exact rfl; exact rfl) | exact QX.B TYok | exact QX.Ext TYok | exact QCd (h0) | exact QCd (f1) | exact QCd (f2) | exact QCd (f3) | exact QCd (d1) | exact QCd (d2) | exact QCd (d3) | exact QCd (d4) | exact QCd (d5) | exact QCd (d6) | exact QCd (d7)); exact rfl) | refine SX.Lit TYok (h := ?_) | refine SX.App TYok (h := ?_) | refine SX.Box TYok (h := ?_) | (apply S_appendd TYok; exact Ev.auto; exact Ev.auto; exact rfl; exact rfl; exact rfl; exact rfl; exact rfl; exact rfl; exact rfl; exact rfl; (intro r hr; first | (obtain ⟨_, _, rfl⟩ := List.mem_map.1 hr; rfl) | (obtain rfl := List.mem_singleton.1 hr; rfl)); (constructor <;> simp <;> omega); exact rfl) | refine SC ?_ | refine SG ?_ | (refine W.drawM (id := 7) [([false, false, false, false, false, false, false], [(0, 1), (1, 2), (3, 3)]), ([true, false, false, false, false, false, false], [(1, 4), (3, 5)]), ([false, true, false, false, false, false, false], [(0, 4), (3, 6)]), ([false, false, false, true, false, false, false], [(0, 5), (1, 6), (4, 7)]), ([true, true, false, false, false, false, false], [(2, 8), (3, 9)]), ([true, false, false, true, false, false, false], [(1, 9), (4, 10)]), ([false, true, false, true, false, false, false], [(0, 9), (4, 11)]), ([false, false, false, true, true, false, false], [(0, 10), (1, 11)]), ([true, true, true, false, false, false, false], [(3, 12)]), ([true, true, false, true, false, false, false], [(2, 12), (4, 13)]), ([true, false, false, true, true, false, false], [(1, 13)]), ([false, true, false, true, true, false, false], [(0, 13)]), ([true, true, true, true, false, false, false], [(4, 14)]), ([true, true, false, true, true, false, false], [(2, 14)]), ([true, true, true, true, true, false, false], [(5, 15)]), ([true, true, true, true, true, true, false], [(6, 16)]), ([true, true, true, true, true, true, true], [])] [?_, ?_, ?_, ?_, ?_, ?_, ?_, ?_, ?_, ?_, ?_, ?_, ?_, ?_, ?_, ?_, ?_] mixed (by kernel_rfl) rfl rfl rfl rfl ?_ ?_ rfl ?_; rotate_left 17) | exact MN.nil | (refine MN.cons ?_ ?_) | exact MG.nil | (refine MG.cons rfl rfl ?_ ?_) | exact Le.refl | (refine Le.st rfl (by repeat (first | exact SubEK.nil | refine SubEK.skip rfl ?_ | refine SubEK.one rfl (by first | exact trivial | exact rfl) ?_)) (by repeat (first | exact SubBK.nil | refine SubBK.skip rfl ?_ | refine SubBK.one rfl ?_))) | (refine W.condA (ht := fun hb => ?_) (hf := fun hb => ?_) <;> (try simp at hb) <;> (try (exfalso; omega))))
  all_goals first
    | exact Fin.ret ResL.auto
    | trace_state
end
end Go.Proofs.Ytgpcmgjdkefdjaa
end
section
set_option linter.unusedVariables false
set_option linter.unusedSimpArgs false
set_option maxHeartbeats 8000000
set_option linter.unusedSectionVars false
namespace Go.Proofs.Ytgpcmgjdkefdjaa
open Lf Go
attribute [local irreducible] PureOp EffOp Ev RG W Then InBlock Lf.Fin nth App InitE Pick SubE EvL EvD EvP EvR ResL Lf.Lex SubR SubBR RA RAll EvC FinO FinM ResM ResD FinS val pw digs trimL
section
open Classical in
theorem order_one (a b c : List Fl) (d : Int) (x : Fl) (hla : a.length ≤ 9223372036854775807) (hlb : b.length ≤ 9223372036854775807) (hlc : c.length ≤ 9223372036854775807) (h1 : a.length ≤ 20) (h2 : b.length ≤ 20) (h3 : c.length ≤ 20) (k1 : Dear a b d) (k2 : ¬ Dear b c d) :
    ACalls Try.prog 6 [slW a, slW b, slW c, cI d, aW x] (.pv (cB true)) := by
  have h0 := small_ok
  have f1 := few_ok a [] hla (by decide) (decide (a.length ≤ 20)) (by simp [fewF])
  have f2 := few_ok b [] hlb (by decide) (decide (b.length ≤ 20)) (by simp [fewF])
  have f3 := few_ok c [] hlc (by decide) (decide (c.length ≤ 20)) (by simp [fewF])
  rw [decide_eq_true h1] at f1
  rw [decide_eq_true h2] at f2
  rw [decide_eq_true h3] at f3
  have d1 := dearer_ok a b d hla hlb (decide (Dear a b d)) (by simp)
  have d2 := dearer_ok b c d hlb hlc (decide (Dear b c d)) (by simp)
  have d3 := dearer_ok a c d hla hlc (decide (Dear a c d)) (by simp)
  have d4 := dearer_ok a a d hla hla (decide (Dear a a d)) (by simp)
  have d5 := dearer_ok b b d hlb hlb (decide (Dear b b d)) (by simp)
  have d6 := dearer_ok (a ++ [x]) b d (by simp; omega) hlb (decide (Dear (a ++ [x]) b d)) (by simp)
  have d7 := dearer_ok b a d hlb hla (decide (Dear b a d)) (by simp)
  rw [show slW (a ++ [x]) = .one (.sl (a.map encW ++ [encW x])) from by rw [slW, List.map_append]; rfl] at d6
  rw [decide_eq_true k1] at d1
  rw [decide_eq_true (dear_refl k1.1)] at d4
  rw [decide_eq_true (dear_refl k1.2.1)] at d5
  have b66 : (((d ≤ x.day ∧ x.day ≤ 200000) ∧ 0 ≤ x.amt) ∧ x.amt ≤ 1000000000000000) ∧ decide (Dear (a ++ [x]) b d) = false → False := fun q => (of_decide_eq_false q.2) (dear_more k1 h1 ⟨q.1.1.1, q.1.1.2, q.1.2⟩)
  have u1 := fun n => upto_ok a d n k1.1
  have u2 := fun n => upto_ok b d n k1.2.1
  have hU : decide (Dear b a d) = true → ∀ n : Nat, Uof d a n = Uof d b n := fun q n => dear_both k1 (of_decide_eq_true q) n
  rw [decide_eq_false k2] at d2
  generalize decide (Dear a c d) = b3 at *
  generalize decide (Dear (a ++ [x]) b d) = b6 at *
  generalize decide (Dear b a d) = b7 at *
  refine ACalls.of_W (qs := [cB true]) [10] 136 Try.func6 (by kernel_rfl) rfl rfl rfl fun G => ?_
  refine W.initA (hw := ?_)
  repeat' (first | (refine W.weaken (Le.freeze1 (m := 74) rfl) ?_; apply W.region (id := 8)) | (refine W.cutR 5 136 [0, 1, 2, 3, 11, 12] [(68, (True, .pv (cB false))), (9, (True, .addr 9 0 0))] [(9, ⟨44, 2, [encW x]⟩)] (by repeat (first | exact Pick.nil | apply Pick.cons rfl)) ?_ (W.norm (by repeat (first | exact App.nil | apply App.cons)) ?_)) | (refine W.cutR 7 136 [0, 1, 2, 3, 11, 12] [(13, (True, .slc 74)), (9, (True, .addr 9 0 0))] [(9, ⟨44, 2, [encW x]⟩), (74, ⟨44, 2, a.map encW ++ [encW x]⟩)] (by repeat (first | exact Pick.nil | apply Pick.cons rfl)) ?_ (W.norm (by repeat (first | exact App.nil | apply App.cons)) ?_)) | (refine Le.auto) | (refine W.purgeR [(8, [0, 1, 3, 9, 11, 12, 13]), (10, [0, 1, 3, 11, 12]), (13, [0, 1, 3, 11, 14])] rfl (by repeat (first | exact PN.nil | apply PN.po rfl | (apply PN.pa; exact rfl; (repeat (first | (apply NR.cons; exact rfl) | exact NR.nil rfl))) | apply PN.a rfl | apply PN.s rfl | apply PN.u rfl | apply PN.m rfl | apply PN.k rfl | apply PN.i rfl | apply PN.skip)) (by repeat (first | exact PB.nil | (apply PB.one; exact rfl; (focus (first | (dsimp only; done) | (dsimp only; exact rfl) | exact rfl)); (focus (first | (dsimp only; done) | (dsimp only; exact rfl) | exact rfl)); exact rfl; (repeat (first | (apply NR.cons; exact rfl) | exact NR.nil rfl)))  | apply PB.cons rfl)) ?_) | ((first | apply U_ | (apply Ug_; exact rfl; exact rfl) | (apply Ugq_; exact rfl; exact rfl)); (first | (apply Q_litD TYok; apply EvR.cons Ev.auto; (repeat (first | exact EvR.nil | apply EvR.cons Ev.auto)); exact rfl; exact rfl; exact rfl; exact rfl; exact rfl; exact rfl) | exact QX.B TYok | exact QX.Ext TYok | exact QCd (h0) | exact QCd (f1) | exact QCd (f2) | exact QCd (f3) | exact QCd (d1) | exact QCd (d2) | exact QCd (d3) | exact QCd (d4) | exact QCd (d5) | exact QCd (d6) | exact QCd (d7)); exact rfl) | refine SX.Lit TYok (h := ?_) | refine SX.App TYok (h := ?_) | refine SX.Box TYok (h := ?_) | (apply S_appendd TYok; exact Ev.auto; exact Ev.auto; exact rfl; exact rfl; exact rfl; exact rfl; exact rfl; exact rfl; exact rfl; exact rfl; (intro r hr; first | (obtain ⟨_, _, rfl⟩ := List.mem_map.1 hr; rfl) | (obtain rfl := List.mem_singleton.1 hr; rfl)); (constructor <;> simp <;> omega); exact rfl) | refine SC ?_ | refine SG ?_ | (refine W.drawM (id := 7) [([false, false, false, false, false, false, false], [(0, 1), (1, 2), (3, 3)]), ([true, false, false, false, false, false, false], [(1, 4), (3, 5)]), ([false, true, false, false, false, false, false], [(0, 4), (3, 6)]), ([false, false, false, true, false, false, false], [(0, 5), (1, 6), (4, 7)]), ([true, true, false, false, false, false, false], [(2, 8), (3, 9)]), ([true, false, false, true, false, false, false], [(1, 9), (4, 10)]), ([false, true, false, true, false, false, false], [(0, 9), (4, 11)]), ([false, false, false, true, true, false, false], [(0, 10), (1, 11)]), ([true, true, true, false, false, false, false], [(3, 12)]), ([true, true, false, true, false, false, false], [(2, 12), (4, 13)]), ([true, false, false, true, true, false, false], [(1, 13)]), ([false, true, false, true, true, false, false], [(0, 13)]), ([true, true, true, true, false, false, false], [(4, 14)]), ([true, true, false, true, true, false, false], [(2, 14)]), ([true, true, true, true, true, false, false], [(5, 15)]), ([true, true, true, true, true, true, false], [(6, 16)]), ([true, true, true, true, true, true, true], [])] [?_, ?_, ?_, ?_, ?_, ?_, ?_, ?_, ?_, ?_, ?_, ?_, ?_, ?_, ?_, ?_, ?_] mixed (by kernel_rfl) rfl rfl rfl rfl ?_ ?_ rfl ?_; rotate_left 17) | exact MN.nil | (refine MN.cons ?_ ?_) | exact MG.nil | (refine MG.cons rfl rfl ?_ ?_) | exact Le.refl | (refine Le.st rfl (by repeat (first | exact SubEK.nil | refine SubEK.skip rfl ?_ | refine SubEK.one rfl (by first | exact trivial | exact rfl) ?_)) (by repeat (first | exact SubBK.nil | refine SubBK.skip rfl ?_ | refine SubBK.one rfl ?_))) | (refine W.condA (ht := fun hb => ?_) (hf := fun hb => ?_) <;> (try simp at hb) <;> (try (exfalso; first | exact b66 hb | omega))))
  all_goals try exact Fin.ret ResL.auto
  all_goals (
    have hE := hU (by assumption)
    apply W.loopP (σ := Nat) 136 [0, 1, 3, 11] (fun k => k ≤ 551) (fun k => [(14, vI k)]) (fun _ => []) (fun k => 551 - k) (0)
    case hp => repeat (first | exact Pick.nil | apply Pick.cons rfl)
    case h0 =>
      refine ⟨by omega, ?_⟩
      exact Le.auto
    case round =>
      rintro k gk
      apply W.norm (by repeat (first | exact App.nil | apply App.cons))
      have w1 := u1 (k : Int)
      have w2 := u2 (k : Int)
      rw [hE k] at w1
      generalize Uof d b (k : Int) = U at *
      generalize mostY d a = M1 at *
      generalize mostY d b = M2 at *
      repeat' (first | ((first | apply U_ | (apply Ug_; exact rfl; exact rfl) | (apply Ugq_; exact rfl; exact rfl)); (first | exact QX.B TYok | exact QX.Ext TYok | exact QCd (w1) | exact QCd (w2)); exact rfl) | refine SX.Lit TYok (h := ?_) | refine SX.App TYok (h := ?_) | refine SX.Box TYok (h := ?_) | refine SC ?_ | refine SG ?_ | (refine W.drawA (id := 7) (L := [false, false, false, false, false, false, false]) mixed rfl ?_) | exact RAll.nil | (refine RAll.cons rfl ?_ ?_) | (refine RA.step (L := [false, false, false, false, false, false, false]) (i := 0) (is := [1, 3]) (by kernel_rfl) ?_) | (refine RA.step (L := [false, false, false, true, false, false, false]) (i := 0) (is := [1, 4]) (by kernel_rfl) ?_) | (refine RA.step (L := [false, false, false, true, true, false, false]) (i := 0) (is := [1]) (by kernel_rfl) ?_) | (refine RA.step (L := [false, true, false, true, true, false, false]) (i := 0) (is := []) (by kernel_rfl) ?_) | (refine RA.step (L := [true, true, false, true, true, false, false]) (i := 2) (is := []) (by kernel_rfl) ?_) | (refine RA.step (L := [true, true, true, true, true, false, false]) (i := 5) (is := []) (by kernel_rfl) ?_) | (refine RA.step (L := [true, true, true, true, true, true, false]) (i := 6) (is := []) (by kernel_rfl) ?_) | (refine RA.done (L := [true, true, true, true, true, true, true]) (by kernel_rfl) ?_) | (refine RA.step (L := [true, false, false, true, true, false, false]) (i := 1) (is := []) (by kernel_rfl) ?_) | (refine RA.step (L := [false, true, false, true, false, false, false]) (i := 0) (is := [4]) (by kernel_rfl) ?_) | (refine RA.step (L := [true, true, false, true, false, false, false]) (i := 2) (is := [4]) (by kernel_rfl) ?_) | (refine RA.step (L := [true, true, true, true, false, false, false]) (i := 4) (is := []) (by kernel_rfl) ?_) | (refine RA.step (L := [true, false, false, true, false, false, false]) (i := 1) (is := [4]) (by kernel_rfl) ?_) | (refine RA.step (L := [false, true, false, false, false, false, false]) (i := 0) (is := [3]) (by kernel_rfl) ?_) | (refine RA.step (L := [true, true, false, false, false, false, false]) (i := 2) (is := [3]) (by kernel_rfl) ?_) | (refine RA.step (L := [true, true, true, false, false, false, false]) (i := 3) (is := []) (by kernel_rfl) ?_) | (refine RA.step (L := [true, false, false, false, false, false, false]) (i := 1) (is := [3]) (by kernel_rfl) ?_) | (refine W.condA (ht := fun hb => ?_) (hf := fun hb => ?_) <;> (try simp at hb) <;> (try (exfalso; omega))))
      all_goals first
        | exact Fin.ret ResL.auto
        | (refine ⟨k + 1, by omega, ?_, by omega⟩; exact Le.auto)
        | (exfalso; omega)
        | trace_state)
end
end Go.Proofs.Ytgpcmgjdkefdjaa
end
section
set_option linter.unusedVariables false
set_option linter.unusedSimpArgs false
set_option maxHeartbeats 8000000
set_option linter.unusedSectionVars false
namespace Go.Proofs.Ytgpcmgjdkefdjaa
open Lf Go
attribute [local irreducible] PureOp EffOp Ev RG W Then InBlock Lf.Fin nth App InitE Pick SubE EvL EvD EvP EvR ResL Lf.Lex SubR SubBR RA RAll EvC FinO FinM ResM ResD FinS val pw digs trimL
section
open Classical in
theorem order_two (a b c : List Fl) (d : Int) (x : Fl) (hla : a.length ≤ 9223372036854775807) (hlb : b.length ≤ 9223372036854775807) (hlc : c.length ≤ 9223372036854775807) (h1 : a.length ≤ 20) (h2 : b.length ≤ 20) (h3 : c.length ≤ 20) (k1 : Dear a b d) (k2 : Dear b c d) :
    ACalls Try.prog 6 [slW a, slW b, slW c, cI d, aW x] (.pv (cB true)) := by
  have h0 := small_ok
  have f1 := few_ok a [] hla (by decide) (decide (a.length ≤ 20)) (by simp [fewF])
  have f2 := few_ok b [] hlb (by decide) (decide (b.length ≤ 20)) (by simp [fewF])
  have f3 := few_ok c [] hlc (by decide) (decide (c.length ≤ 20)) (by simp [fewF])
  rw [decide_eq_true h1] at f1
  rw [decide_eq_true h2] at f2
  rw [decide_eq_true h3] at f3
  have d1 := dearer_ok a b d hla hlb (decide (Dear a b d)) (by simp)
  have d2 := dearer_ok b c d hlb hlc (decide (Dear b c d)) (by simp)
  have d3 := dearer_ok a c d hla hlc (decide (Dear a c d)) (by simp)
  have d4 := dearer_ok a a d hla hla (decide (Dear a a d)) (by simp)
  have d5 := dearer_ok b b d hlb hlb (decide (Dear b b d)) (by simp)
  have d6 := dearer_ok (a ++ [x]) b d (by simp; omega) hlb (decide (Dear (a ++ [x]) b d)) (by simp)
  have d7 := dearer_ok b a d hlb hla (decide (Dear b a d)) (by simp)
  rw [show slW (a ++ [x]) = .one (.sl (a.map encW ++ [encW x])) from by rw [slW, List.map_append]; rfl] at d6
  rw [decide_eq_true k1] at d1
  rw [decide_eq_true (dear_refl k1.1)] at d4
  rw [decide_eq_true (dear_refl k1.2.1)] at d5
  have b66 : (((d ≤ x.day ∧ x.day ≤ 200000) ∧ 0 ≤ x.amt) ∧ x.amt ≤ 1000000000000000) ∧ decide (Dear (a ++ [x]) b d) = false → False := fun q => (of_decide_eq_false q.2) (dear_more k1 h1 ⟨q.1.1.1, q.1.1.2, q.1.2⟩)
  have u1 := fun n => upto_ok a d n k1.1
  have u2 := fun n => upto_ok b d n k1.2.1
  have hU : decide (Dear b a d) = true → ∀ n : Nat, Uof d a n = Uof d b n := fun q n => dear_both k1 (of_decide_eq_true q) n
  rw [decide_eq_true k2] at d2
  rw [decide_eq_true (dear_trans k1 k2)] at d3
  generalize decide (Dear (a ++ [x]) b d) = b6 at *
  generalize decide (Dear b a d) = b7 at *
  refine ACalls.of_W (qs := [cB true]) [10] 136 Try.func6 (by kernel_rfl) rfl rfl rfl fun G => ?_
  refine W.initA (hw := ?_)
  repeat' (first | (refine W.weaken (Le.freeze1 (m := 74) rfl) ?_; apply W.region (id := 8)) | (refine W.cutR 5 136 [0, 1, 2, 3, 11, 12] [(68, (True, .pv (cB false))), (9, (True, .addr 9 0 0))] [(9, ⟨44, 2, [encW x]⟩)] (by repeat (first | exact Pick.nil | apply Pick.cons rfl)) ?_ (W.norm (by repeat (first | exact App.nil | apply App.cons)) ?_)) | (refine W.cutR 7 136 [0, 1, 2, 3, 11, 12] [(13, (True, .slc 74)), (9, (True, .addr 9 0 0))] [(9, ⟨44, 2, [encW x]⟩), (74, ⟨44, 2, a.map encW ++ [encW x]⟩)] (by repeat (first | exact Pick.nil | apply Pick.cons rfl)) ?_ (W.norm (by repeat (first | exact App.nil | apply App.cons)) ?_)) | (refine Le.auto) | (refine W.purgeR [(8, [0, 1, 3, 9, 11, 12, 13]), (10, [0, 1, 3, 11, 12]), (13, [0, 1, 3, 11, 14])] rfl (by repeat (first | exact PN.nil | apply PN.po rfl | (apply PN.pa; exact rfl; (repeat (first | (apply NR.cons; exact rfl) | exact NR.nil rfl))) | apply PN.a rfl | apply PN.s rfl | apply PN.u rfl | apply PN.m rfl | apply PN.k rfl | apply PN.i rfl | apply PN.skip)) (by repeat (first | exact PB.nil | (apply PB.one; exact rfl; (focus (first | (dsimp only; done) | (dsimp only; exact rfl) | exact rfl)); (focus (first | (dsimp only; done) | (dsimp only; exact rfl) | exact rfl)); exact rfl; (repeat (first | (apply NR.cons; exact rfl) | exact NR.nil rfl)))  | apply PB.cons rfl)) ?_) | ((first | apply U_ | (apply Ug_; exact rfl; exact rfl) | (apply Ugq_; exact rfl; exact rfl)); (first | (apply Q_litD TYok; apply EvR.cons Ev.auto; (repeat (first | exact EvR.nil | apply EvR.cons Ev.auto)); exact rfl; exact rfl; exact rfl; exact rfl; exact rfl; exact rfl) | exact QX.B TYok | exact QX.Ext TYok | exact QCd (h0) | exact QCd (f1) | exact QCd (f2) | exact QCd (f3) | exact QCd (d1) | exact QCd (d2) | exact QCd (d3) | exact QCd (d4) | exact QCd (d5) | exact QCd (d6) | exact QCd (d7)); exact rfl) | refine SX.Lit TYok (h := ?_) | refine SX.App TYok (h := ?_) | refine SX.Box TYok (h := ?_) | (apply S_appendd TYok; exact Ev.auto; exact Ev.auto; exact rfl; exact rfl; exact rfl; exact rfl; exact rfl; exact rfl; exact rfl; exact rfl; (intro r hr; first | (obtain ⟨_, _, rfl⟩ := List.mem_map.1 hr; rfl) | (obtain rfl := List.mem_singleton.1 hr; rfl)); (constructor <;> simp <;> omega); exact rfl) | refine SC ?_ | refine SG ?_ | (refine W.drawM (id := 7) [([false, false, false, false, false, false, false], [(0, 1), (1, 2), (3, 3)]), ([true, false, false, false, false, false, false], [(1, 4), (3, 5)]), ([false, true, false, false, false, false, false], [(0, 4), (3, 6)]), ([false, false, false, true, false, false, false], [(0, 5), (1, 6), (4, 7)]), ([true, true, false, false, false, false, false], [(2, 8), (3, 9)]), ([true, false, false, true, false, false, false], [(1, 9), (4, 10)]), ([false, true, false, true, false, false, false], [(0, 9), (4, 11)]), ([false, false, false, true, true, false, false], [(0, 10), (1, 11)]), ([true, true, true, false, false, false, false], [(3, 12)]), ([true, true, false, true, false, false, false], [(2, 12), (4, 13)]), ([true, false, false, true, true, false, false], [(1, 13)]), ([false, true, false, true, true, false, false], [(0, 13)]), ([true, true, true, true, false, false, false], [(4, 14)]), ([true, true, false, true, true, false, false], [(2, 14)]), ([true, true, true, true, true, false, false], [(5, 15)]), ([true, true, true, true, true, true, false], [(6, 16)]), ([true, true, true, true, true, true, true], [])] [?_, ?_, ?_, ?_, ?_, ?_, ?_, ?_, ?_, ?_, ?_, ?_, ?_, ?_, ?_, ?_, ?_] mixed (by kernel_rfl) rfl rfl rfl rfl ?_ ?_ rfl ?_; rotate_left 17) | exact MN.nil | (refine MN.cons ?_ ?_) | exact MG.nil | (refine MG.cons rfl rfl ?_ ?_) | exact Le.refl | (refine Le.st rfl (by repeat (first | exact SubEK.nil | refine SubEK.skip rfl ?_ | refine SubEK.one rfl (by first | exact trivial | exact rfl) ?_)) (by repeat (first | exact SubBK.nil | refine SubBK.skip rfl ?_ | refine SubBK.one rfl ?_))) | (refine W.condA (ht := fun hb => ?_) (hf := fun hb => ?_) <;> (try simp at hb) <;> (try (exfalso; first | exact b66 hb | omega))))
  all_goals try exact Fin.ret ResL.auto
  all_goals (
    have hE := hU (by assumption)
    apply W.loopP (σ := Nat) 136 [0, 1, 3, 11] (fun k => k ≤ 551) (fun k => [(14, vI k)]) (fun _ => []) (fun k => 551 - k) (0)
    case hp => repeat (first | exact Pick.nil | apply Pick.cons rfl)
    case h0 =>
      refine ⟨by omega, ?_⟩
      exact Le.auto
    case round =>
      rintro k gk
      apply W.norm (by repeat (first | exact App.nil | apply App.cons))
      have w1 := u1 (k : Int)
      have w2 := u2 (k : Int)
      rw [hE k] at w1
      generalize Uof d b (k : Int) = U at *
      generalize mostY d a = M1 at *
      generalize mostY d b = M2 at *
      repeat' (first | ((first | apply U_ | (apply Ug_; exact rfl; exact rfl) | (apply Ugq_; exact rfl; exact rfl)); (first | exact QX.B TYok | exact QX.Ext TYok | exact QCd (w1) | exact QCd (w2)); exact rfl) | refine SX.Lit TYok (h := ?_) | refine SX.App TYok (h := ?_) | refine SX.Box TYok (h := ?_) | refine SC ?_ | refine SG ?_ | (refine W.drawA (id := 7) (L := [false, false, false, false, false, false, false]) mixed rfl ?_) | exact RAll.nil | (refine RAll.cons rfl ?_ ?_) | (refine RA.step (L := [false, false, false, false, false, false, false]) (i := 0) (is := [1, 3]) (by kernel_rfl) ?_) | (refine RA.step (L := [false, false, false, true, false, false, false]) (i := 0) (is := [1, 4]) (by kernel_rfl) ?_) | (refine RA.step (L := [false, false, false, true, true, false, false]) (i := 0) (is := [1]) (by kernel_rfl) ?_) | (refine RA.step (L := [false, true, false, true, true, false, false]) (i := 0) (is := []) (by kernel_rfl) ?_) | (refine RA.step (L := [true, true, false, true, true, false, false]) (i := 2) (is := []) (by kernel_rfl) ?_) | (refine RA.step (L := [true, true, true, true, true, false, false]) (i := 5) (is := []) (by kernel_rfl) ?_) | (refine RA.step (L := [true, true, true, true, true, true, false]) (i := 6) (is := []) (by kernel_rfl) ?_) | (refine RA.done (L := [true, true, true, true, true, true, true]) (by kernel_rfl) ?_) | (refine RA.step (L := [true, false, false, true, true, false, false]) (i := 1) (is := []) (by kernel_rfl) ?_) | (refine RA.step (L := [false, true, false, true, false, false, false]) (i := 0) (is := [4]) (by kernel_rfl) ?_) | (refine RA.step (L := [true, true, false, true, false, false, false]) (i := 2) (is := [4]) (by kernel_rfl) ?_) | (refine RA.step (L := [true, true, true, true, false, false, false]) (i := 4) (is := []) (by kernel_rfl) ?_) | (refine RA.step (L := [true, false, false, true, false, false, false]) (i := 1) (is := [4]) (by kernel_rfl) ?_) | (refine RA.step (L := [false, true, false, false, false, false, false]) (i := 0) (is := [3]) (by kernel_rfl) ?_) | (refine RA.step (L := [true, true, false, false, false, false, false]) (i := 2) (is := [3]) (by kernel_rfl) ?_) | (refine RA.step (L := [true, true, true, false, false, false, false]) (i := 3) (is := []) (by kernel_rfl) ?_) | (refine RA.step (L := [true, false, false, false, false, false, false]) (i := 1) (is := [3]) (by kernel_rfl) ?_) | (refine W.condA (ht := fun hb => ?_) (hf := fun hb => ?_) <;> (try simp at hb) <;> (try (exfalso; omega))))
      all_goals first
        | exact Fin.ret ResL.auto
        | (refine ⟨k + 1, by omega, ?_, by omega⟩; exact Le.auto)
        | (exfalso; omega)
        | trace_state)
end
end Go.Proofs.Ytgpcmgjdkefdjaa
end
section
set_option linter.unusedVariables false
set_option linter.unusedSimpArgs false
set_option maxHeartbeats 8000000
set_option linter.unusedSectionVars false
namespace Go.Proofs.Ytgpcmgjdkefdjaa
open Lf Go
attribute [local irreducible] PureOp EffOp Ev RG W Then InBlock Lf.Fin nth App InitE Pick SubE EvL EvD EvP EvR ResL Lf.Lex SubR SubBR RA RAll EvC FinO FinM ResM ResD FinS val pw digs trimL
section
open Classical in
theorem order_ok (a b c : List Fl) (d : Int) (x : Fl) (hla : a.length ≤ 9223372036854775807) (hlb : b.length ≤ 9223372036854775807) (hlc : c.length ≤ 9223372036854775807) :
    ACalls Try.prog 6 [slW a, slW b, slW c, cI d, aW x] (.pv (cB true)) := by
  by_cases h : (a.length ≤ 20 ∧ b.length ≤ 20) ∧ c.length ≤ 20
  case neg => exact order_few a b c d x hla hlb hlc h
  obtain ⟨⟨h1, h2⟩, h3⟩ := h
  by_cases k1 : Dear a b d
  case neg => exact order_not a b c d x hla hlb hlc h1 h2 h3 k1
  by_cases k2 : Dear b c d
  · exact order_two a b c d x hla hlb hlc h1 h2 h3 k1 k2
  · exact order_one a b c d x hla hlb hlc h1 h2 h3 k1 k2
end
end Go.Proofs.Ytgpcmgjdkefdjaa
end
section
namespace Go.Proofs.Ytgpcmgjdkefdjaa
open Lf Go
theorem flow_of {n : Nat} {cs : List Cell} (h : TyL TY (n + 2) 44 cs) : ∃ f : Fl, cs = encW f ∧ True := by
  obtain ⟨a1, b1, rfl, t1, a2, b2, rfl, t2, rfl⟩ : ∃ a1 b1, cs = a1 ++ b1 ∧ TyL TY (n + 1) 3 a1 ∧ ∃ a2 b2, b1 = a2 ++ b2 ∧ TyL TY (n + 1) 3 a2 ∧ b2 = [] := h
  obtain ⟨i1, rfl, _⟩ : ∃ i, a1 = [.int .i64 i] ∧ (Lit.int .i64 i).wf = true := t1
  obtain ⟨i2, rfl, _⟩ : ∃ i, a2 = [.int .i64 i] ∧ (Lit.int .i64 i).wf = true := t2
  exact ⟨⟨i1, i2⟩, rfl, trivial⟩
theorem flow_in {n : Nat} {cs : List Cell} (h : TyL TY (n + 2) 44 cs) : ∃ f : Fl, cs = encW f ∧ i64B f.day ∧ i64B f.amt := by
  obtain ⟨a1, b1, rfl, t1, a2, b2, rfl, t2, rfl⟩ : ∃ a1 b1, cs = a1 ++ b1 ∧ TyL TY (n + 1) 3 a1 ∧ ∃ a2 b2, b1 = a2 ++ b2 ∧ TyL TY (n + 1) 3 a2 ∧ b2 = [] := h
  obtain ⟨i1, rfl, w1⟩ : ∃ i, a1 = [.int .i64 i] ∧ (Lit.int .i64 i).wf = true := t1
  obtain ⟨i2, rfl, w2⟩ : ∃ i, a2 = [.int .i64 i] ∧ (Lit.int .i64 i).wf = true := t2
  exact ⟨⟨i1, i2⟩, rfl, bounds_i64 w1, bounds_i64 w2⟩
theorem flows_in {c : Cell} (h : TyL TY 4 22 [c]) : ∃ l : List Fl, c = .sl (l.map encW) ∧ l.length ≤ 9223372036854775807 := by
  obtain ⟨rows, h1, hl, h3⟩ : ∃ rows, [c] = [Cell.sl rows] ∧ rows.length ≤ maxLen ∧ ∀ r ∈ rows, TyL TY 3 44 r := h
  obtain rfl := (List.cons.inj h1).1
  obtain ⟨l, rfl, _⟩ := rows_map (f := encW) (p := fun _ => True) fun r hr => flow_of (n := 1) (h3 r hr)
  exact ⟨l, rfl, by simp only [List.length_map] at hl; unfold maxLen at hl; exact hl⟩
end Go.Proofs.Ytgpcmgjdkefdjaa
end
section
namespace Go.Proofs.Ytgpcmgjdkefdjaa
open Lf Go Go.ChangeShapes Go.WideShapes Go.ChangeAt Go.RowKit
namespace OrderRow
theorem own : ownKnob Try.prog.godebug = none := by kernel_rfl
theorem laidOut : laidOutB Try.prog = true := by kernel_rfl
set_option maxRecDepth 100000 in
theorem lifted (os : Os) (started : os.Started) (H : Type) (enc : TypeId × Value → H) :
    ReturnsInHanded {} Try.checked os 6 .any (Rows.priceOrderSpec.pre6 enc Try.prog Try.f6 Rows.priceOrderRow.domain false) (Rows.priceOrderSpec.post enc Try.prog Try.f6 false true false false) := by
  refine returnsInHanded_of_change (C := Try.checked) own started (by kernel_rfl) Try.func6
    (ChangeSpec.witness6 (enc := enc) (C := Try.checked) false ⟨#[], #[.slice none 0 0, .slice none 0 0, .slice none 0 0, .int .i64 0, .agg #[.int .i64 0, .int .i64 0]], []⟩ 8 (by kernel_rfl) (by kernel_rfl) (by kernel_rfl) (by kernel_rfl)) ?_
  intro W base args ds gs before hval0 hW hcnd _
  have hval : ∀ (j : Nat) t v, Try.f6.params[j]? = some t → args[j]? = some v → Value.okWide Try.prog W .any base t v := hval0
  have hW' := hW
  obtain ⟨p, q, hA0, hV, rfl, hfz, hnd⟩ := hW
  have hA : DataW.TrodAll enc Try.prog W 0 (fun _ => true) true Try.f6.params.toList args.toList ds p := hA0
  rw [Try.params6] at hA hval
  obtain ⟨v0, vs0, d0, ds0, p0, q0, hargs, rfl, rfl, h0, r0⟩ := trodAll_cons hA
  obtain ⟨v1, vs1, d1, ds1, p1, q1, rfl, rfl, rfl, h1, r1⟩ := trodAll_cons r0
  obtain ⟨v2, vs2, d2, ds2, p2, q2, rfl, rfl, rfl, h2, r2⟩ := trodAll_cons r1
  obtain ⟨v3, vs3, d3, ds3, p3, q3, rfl, rfl, rfl, h3, r3⟩ := trodAll_cons r2
  obtain ⟨v4, vs4, d4, ds4, p4, q4, rfl, rfl, rfl, h4, r4⟩ := trodAll_cons r3
  obtain ⟨rfl, rfl, rfl⟩ := trodAll_nil r4
  obtain rfl : args = #[v0, v1, v2, v3, v4] := by cases args; simp_all
  obtain ⟨rfl, rfl⟩ := trodVars_none hV
  have k0 := h0
  have lt0 : ∀ x ∈ p0, x.block < W.heap.size := by obtain ⟨m, hm⟩ := k0; exact DataW.trod_lt m _ _ _ hm
  obtain ⟨c0, rel0, ty0⟩ := read_slice TYok 4 Try.underlying22 (by kernel_rfl) (hval 0 22 v0 rfl rfl) h0
  obtain ⟨a0, rfl, w0⟩ := flows_in ty0
  have k1 := h1
  have lt1 : ∀ x ∈ p1, x.block < W.heap.size := by obtain ⟨m, hm⟩ := k1; exact DataW.trod_lt m _ _ _ hm
  obtain ⟨c1, rel1, ty1⟩ := read_slice TYok 4 Try.underlying22 (by kernel_rfl) (hval 1 22 v1 rfl rfl) h1
  obtain ⟨a1, rfl, w1⟩ := flows_in ty1
  have k2 := h2
  have lt2 : ∀ x ∈ p2, x.block < W.heap.size := by obtain ⟨m, hm⟩ := k2; exact DataW.trod_lt m _ _ _ hm
  obtain ⟨c2, rel2, ty2⟩ := read_slice TYok 4 Try.underlying22 (by kernel_rfl) (hval 2 22 v2 rfl rfl) h2
  obtain ⟨a2, rfl, w2⟩ := flows_in ty2
  obtain ⟨a3, rfl, rfl, rfl, w3⟩ := open_int Try.underlying3 (hval 3 3 v3 rfl rfl) h3
  have k4 := h4
  have lt4 : ∀ x ∈ p4, x.block < W.heap.size := by obtain ⟨m, hm⟩ := k4; exact DataW.trod_lt m _ _ _ hm
  obtain ⟨c4, rel4, ty4⟩ := read_struct TYok 4 Try.underlying44 (by kernel_rfl) (hval 4 44 v4 rfl rfl) h4
  obtain ⟨a4, rfl, w4⟩ := flow_in ty4
  clear hA0 hval0
  have hc := (order_ok a0 a1 a2 a3 a4 w0 w1 w2).calls (allΦ W) W #[v0, v1, v2, .int .i64 a3, v4] (fits_all W)
    (ArgsRel.of (ArgsL.cons rel0 (ArgsL.cons rel1 (ArgsL.cons rel2 (ArgsL.cons (Rel.int _ _) (ArgsL.cons rel4 ArgsL.nil))))))
  refine hc.mono fun e W' ⟨v, Φ', he, hv, _, _, _, bel⟩ => ?_
  subst he
  obtain rfl : v = .bool true := AVRel.bool hv
  exact ⟨_, rfl, _, _, _, [], _, [], hW', trodAll_mk1 (shut_bool Try.underlying4 _), (trodAll_cons_mk (Below.trod laidOut (by kernel_rfl) (of_decide_eq_true (by kernel_rfl)) k0 bel lt0) (trodAll_cons_mk (Below.trod laidOut (by kernel_rfl) (of_decide_eq_true (by kernel_rfl)) k1 bel lt1) (trodAll_cons_mk (Below.trod laidOut (by kernel_rfl) (of_decide_eq_true (by kernel_rfl)) k2 bel lt2) (trodAll_cons_mk (shut_int Try.underlying3 w3) (trodAll_cons_mk (Below.trod laidOut (by kernel_rfl) (of_decide_eq_true (by kernel_rfl)) k4 bel lt4) trodAll_mk0))))), rfl, bel.frame _, fun h => by cases h⟩
theorem over : Rows.priceOrderRow.holds Try.pinned (OpenSpec.ofChange Rows.priceOrderSpec) :=
  OpenClaim.holds_of_wide 6 Try.f6 rfl rfl rfl rfl rfl rfl rfl ⟨rfl, rfl, rfl, rfl, rfl⟩ rfl rfl rfl rfl rfl (by kernel_rfl) Try.func6 (by kernel_rfl)
    (of_decide_eq_true (by kernel_rfl)) (by unfold Func.isWrapper; first | (rw [if_pos (by decide +kernel)]; kernel_rfl) | (rw [if_neg (by decide +kernel)]; exact ⟨rfl, rfl⟩))
    (fun os started H enc _ => lifted os started H enc)
end OrderRow
theorem priceOrder_proved : Rows.PriceOrderSaid := OrderRow.over
end Go.Proofs.Ytgpcmgjdkefdjaa
end
