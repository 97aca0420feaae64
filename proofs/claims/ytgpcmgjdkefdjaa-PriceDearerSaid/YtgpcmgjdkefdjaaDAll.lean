/-
  PriceDearer: the row: what came in is read, the contract of the function gives true, and what came in stands.
-/
import Derived.Test.YtgpcmgjdkefdjaaDS11
import Derived.Test.YtgpcmgjdkefdjaaDS03
import Derived.Test.YtgpcmgjdkefdjaaDS05
import Derived.Test.YtgpcmgjdkefdjaaDS08
section
set_option linter.unusedVariables false
set_option linter.unusedSimpArgs false
set_option maxHeartbeats 8000000
set_option linter.unusedSectionVars false
namespace Go.Proofs.Ytgpcmgjdkefdjaa
open Lf Go
attribute [local irreducible] PureOp EffOp Ev RG W Then InBlock Lf.Fin nth App InitE Pick SubE EvL EvD EvP EvR ResL Lf.Lex SubR SubBR RA RAll EvC FinO FinM ResM ResD FinS val pw digs trimL
section
def cellI (n : Int) : List Cell := [.int .i64 n]
theorem KI : KeyK Try.prog 3 kI := KeyK.int (by kernel_rfl)
def mg (M : List (Int × Int)) (y : Int) : Int := (mget M y).getD 0
theorem mg_mput (M : List (Int × Int)) (k v y : Int) : mg (mput M k v) y = if k = y then v else mg M y := by
  unfold mg
  induction M with
  | nil =>
    rw [mput, mget, mget]
    split <;> rfl
  | cons p r ih =>
    obtain ⟨x, z⟩ := p
    rw [mput]
    by_cases h : x = k
    · subst h
      rw [if_pos rfl, mget, mget]
      split <;> rfl
    · rw [if_neg h, mget, mget]
      by_cases h2 : x = y
      · subst h2
        rw [if_pos rfl, if_pos rfl, if_neg (fun e => h e.symm)]
      · rw [if_neg h2, if_neg h2]
        exact ih
/-- the sum of the amounts of one year -/
def Dsum (d : Int) : List Fl → Int → Int
  | [], _ => 0
  | f :: l, y => (if yrI d f = y then f.amt else 0) + Dsum d l y
theorem Dsum_snoc (d : Int) (l : List Fl) (f : Fl) (y : Int) : Dsum d (l ++ [f]) y = Dsum d l y + (if yrI d f = y then f.amt else 0) := by
  induction l with
  | nil => simp [Dsum]
  | cons g l ih => rw [List.cons_append, Dsum, Dsum, ih]; omega
theorem Uof_next (d : Int) (l : List Fl) (y : Int) : Uof d l (y + 1) = Uof d l y + Dsum d l y := by
  induction l with
  | nil => rfl
  | cons f l ih =>
    rw [Uof, Uof, Dsum, ih]
    by_cases h1 : yrI d f < y
    · rw [if_pos (by omega), if_pos h1, if_neg (by omega)]; omega
    · by_cases h2 : yrI d f = y
      · rw [if_pos (by omega), if_neg h1, if_pos h2]; omega
      · rw [if_neg (by omega), if_neg h1, if_neg h2]; omega
theorem Dsum_rng {d : Int} {l : List Fl} (h : ∀ f ∈ l, -1000000000000000 ≤ f.amt ∧ f.amt ≤ 1000000000000000) (y : Int) : -(1000000000000000 * (l.length : Int)) ≤ Dsum d l y ∧ Dsum d l y ≤ 1000000000000000 * (l.length : Int) := by
  induction l with
  | nil => simp [Dsum]
  | cons f l ih =>
    have := ih fun g hg => h g (List.mem_cons_of_mem _ hg)
    have := h f (List.mem_cons_self ..)
    rw [Dsum, List.length_cons, show ((l.length + 1 : Nat) : Int) = l.length + 1 by omega, Int.mul_add, Int.mul_one]
    split <;> omega
theorem Uof_rng' {d : Int} {l : List Fl} (h : ∀ f ∈ l, -1000000000000000 ≤ f.amt ∧ f.amt ≤ 1000000000000000) (y : Int) : -(1000000000000000 * (l.length : Int)) ≤ Uof d l y ∧ Uof d l y ≤ 1000000000000000 * (l.length : Int) := by
  induction l with
  | nil => simp [Uof]
  | cons f l ih =>
    have := ih fun g hg => h g (List.mem_cons_of_mem _ hg)
    have := h f (List.mem_cons_self ..)
    rw [Uof, List.length_cons, show ((l.length + 1 : Nat) : Int) = l.length + 1 by omega, Int.mul_add, Int.mul_one]
    split <;> omega
def negF (f : Fl) : Fl := ⟨f.day, -f.amt⟩
theorem Uof_neg (d : Int) (l : List Fl) (n : Int) : Uof d (l.map negF) n = -Uof d l n := by
  induction l with
  | nil => rfl
  | cons f l ih =>
    rw [List.map_cons, Uof, Uof, ih, show yrI d (negF f) = yrI d f from rfl, show (negF f).amt = -f.amt from rfl]
    split <;> omega
theorem Uof_app (d : Int) (l m : List Fl) (n : Int) : Uof d (l ++ m) n = Uof d l n + Uof d m n := by
  induction l with
  | nil => simp [Uof]
  | cons f l ih => rw [List.cons_append, Uof, Uof, ih]; omega
theorem mostY_app (d : Int) (l m : List Fl) : mostY d (l ++ m) = max (mostY d l) (mostY d m) := by
  induction l with
  | nil => have := mostY_nn d m; simp only [List.nil_append, mostY]; omega
  | cons f l ih => rw [List.cons_append, mostY, mostY, ih]; omega
def signed (a b : List Fl) : List Fl := a ++ b.map negF
theorem signed_len (a b : List Fl) : (signed a b).length = (a ++ b).length := by simp [signed]
theorem signed_at {a b : List Fl} {k : Nat} (hk : k < (a ++ b).length) : (nth (signed a b) k).day = (nth (a ++ b) k).day ∧ (nth (signed a b) k).amt = if k < a.length then (nth (a ++ b) k).amt else -(nth (a ++ b) k).amt := by
  rw [nth_eq (by rw [signed_len]; exact hk), nth_eq hk]
  unfold signed
  by_cases h : k < a.length
  · rw [List.getElem_append_left h, List.getElem_append_left h, if_pos h]
    exact ⟨rfl, rfl⟩
  · rw [List.getElem_append_right (by omega), List.getElem_append_right (by omega), if_neg h, List.getElem_map]
    exact ⟨rfl, rfl⟩
theorem dearer_ok (a b : List Fl) (d : Int) (hla : a.length ≤ 9223372036854775807) (hlb : b.length ≤ 9223372036854775807) (bb : Bool) (hbb : bb = true ↔ Dear a b d) : ACalls Try.prog 18 [slW a, slW b, cI d] (.pv (cB bb)) := by
  have p1 := pright_ok a d hla
  have p2 := pright_ok b d hlb
  by_cases h1 : flowsB a d = true ∧ flowsB b d = true
  case neg =>
    have e : bb = false := by
      rw [Bool.eq_false_iff]
      exact fun q => h1 ⟨(hbb.1 q).1.fl, (hbb.1 q).2.1.fl⟩
    subst e
    generalize flowsB a d = x at *
    generalize flowsB b d = y at *
    refine ACalls.of_W (qs := [cB false]) [6] 76 Try.func18 (by kernel_rfl) rfl rfl rfl fun G => ?_
    refine W.initA (hw := ?_)
    repeat' (first | ((first | apply U_ | (apply Ug_; exact rfl; exact rfl) | (apply Ugq_; exact rfl; exact rfl)); (first | exact QX.B TYok | exact QX.Num TYok | exact QX.Len TYok | exact QX.Idx TYok | exact QCd (p1) | exact QCd (p2)); exact rfl) | refine SX.Alloc TYok (h := ?_) | refine SX.Store TYok (h := ?_) | refine SX.Lit TYok (h := ?_) | refine SC ?_ | refine SG ?_ | (refine W.condA (ht := fun hb => ?_) (hf := fun hb => ?_) <;> (try simp at hb) <;> (try (exfalso; first | exact h1 hb | omega))))
    all_goals first
      | exact Fin.ret ResL.auto
      | trace_state
  rw [h1.1] at p1
  rw [h1.2] at p2
  have ra := flowsB_yes h1.1
  have rb := flowsB_yes h1.2
  have hdd := ra.1.1
  have cc := concat_ok [a, b] (by simp) (fun x hx => by
    rcases List.mem_cons.1 hx with rfl | hx
    · omega
    · rcases List.mem_cons.1 hx with rfl | hx
      · omega
      · cases hx)
  rw [show ([a, b] : List (List Fl)).flatten = a ++ b by simp] at cc
  have rC : ∀ f ∈ a ++ b, (0 ≤ f.day ∧ f.day ≤ 200000) ∧ (-1000000000000000 ≤ f.amt ∧ f.amt ≤ 1000000000000000) := fun f hf => by
    rcases List.mem_append.1 hf with h | h
    · exact ra.2 f h
    · exact rb.2 f h
  have lC : (a ++ b).length = a.length + b.length := List.length_append
  have rE : ∀ f ∈ signed a b, -1000000000000000 ≤ f.amt ∧ f.amt ≤ 1000000000000000 := fun f hf => by
    unfold signed at hf
    rcases List.mem_append.1 hf with h | h
    · exact (ra.2 f h).2
    · obtain ⟨g, hg, rfl⟩ := List.mem_map.1 h
      have := (rb.2 g hg).2
      show -1000000000000000 ≤ -g.amt ∧ -g.amt ≤ 1000000000000000
      omega
  have hsg := fun k (hk : k < (a ++ b).length) => signed_at hk
  have lE := signed_len a b
  refine ACalls.of_W (qs := [cB bb]) [6] 76 Try.func18 (by kernel_rfl) rfl rfl rfl fun G => ?_
  refine W.initA (hw := ?_)
  repeat' (first | ((first | apply U_ | (apply Ug_; exact rfl; exact rfl) | (apply Ugq_; exact rfl; exact rfl)); (first | (apply Q_litD TYok; (repeat (first | exact EvR.nil | apply EvR.cons Ev.auto)); exact rfl; exact rfl; exact rfl; exact rfl; exact rfl; exact rfl) | exact QX.B TYok | exact QX.Num TYok | exact QX.Len TYok | exact QX.Idx TYok | exact QCd (p1) | exact QCd (p2) | exact QCd (cc)); exact rfl) | refine SX.Alloc TYok (h := ?_) | refine SX.Store TYok (h := ?_) | refine SX.Lit TYok (h := ?_) | (apply S_makeMap TYok 0; exact rfl; exact rfl) | refine SC ?_ | refine SG ?_ | (refine W.condA (ht := fun hb => ?_) (hf := fun hb => ?_) <;> (try simp at hb) <;> (try (exfalso; omega))))
  apply W.loopP (σ := (Nat × List (Int × Int))) 76 [0, 2, 7, 28, 29] (fun z => z.1 ≤ (a ++ b).length ∧ (∀ j, j < z.1 → d ≤ (nth (a ++ b) j).day) ∧ ∀ y, mg z.2 y = Dsum d ((signed a b).take z.1) y) (fun z => [(30, vI z.1), (8, vI (mostY d ((a ++ b).take z.1)))]) (fun z => [(24, ⟨mapTag, 0, z.2.map (mrow kI cellI)⟩)]) (fun z => (a ++ b).length - z.1) ((0, []))
  case hp => repeat (first | exact Pick.nil | apply Pick.cons rfl)
  case h0 =>
    refine ⟨⟨by simp, fun j hj => by omega, fun y => rfl⟩, ?_⟩
    exact Le.auto
  case round =>
    rintro ⟨k, M⟩ ⟨g1, g2, g3⟩
    apply W.norm (by repeat (first | exact App.nil | apply App.cons))
    dsimp only
    simp only at g1 g2 g3
    by_cases hk : k < (a ++ b).length
    · have hm := nth_mem hk
      have f1 := rC _ hm
      obtain ⟨s1, s2⟩ := hsg k hk
      by_cases hd : (nth (a ++ b) k).day < d
      · have e : bb = false := by
          rw [Bool.eq_false_iff]
          intro q
          rcases List.mem_append.1 hm with h | h
          · have := (hbb.1 q).1.early _ h; omega
          · have := (hbb.1 q).2.1.early _ h; omega
        subst e
        generalize a ++ b = C at *
        repeat' (first | ((first | apply U_ | (apply Ug_; exact rfl; exact rfl) | (apply Ugq_; exact rfl; exact rfl)); (first | exact QX.B TYok | exact QX.Num TYok | exact QX.Len TYok | exact QX.Idx TYok); exact rfl) | refine SX.Alloc TYok (h := ?_) | refine SX.Store TYok (h := ?_) | refine SX.Lit TYok (h := ?_) | refine SC ?_ | refine SG ?_ | (refine W.condA (ht := fun hb => ?_) (hf := fun hb => ?_) <;> (try simp at hb) <;> (try (exfalso; omega))))
        all_goals first
          | exact Fin.ret ResL.auto
          | (exfalso; omega)
          | trace_state
      · have e2 := mostY_snoc d ((a ++ b).take k) (nth (a ++ b) k)
        rw [← take_nth hk] at e2
        have hy0 : 0 ≤ yrI d (nth (a ++ b) k) := by unfold yrI; omega
        have eyI : yrI d (nth (a ++ b) k) = ((nth (a ++ b) k).day - d) / 365 := rfl
        have eyE : yrI d (nth (signed a b) k) = yrI d (nth (a ++ b) k) := by unfold yrI; rw [s1]
        have dr := Dsum_rng (d := d) (l := (signed a b).take k) (fun f hf => rE f (List.mem_of_mem_take hf)) (yrI d (nth (a ++ b) k))
        have lt : (((signed a b).take k).length : Int) ≤ 800 := by simp; omega
        have f2 := f1.2
        have mg0 := g3 (yrI d (nth (a ++ b) k))
        have hst : ∀ v, v = mg M (yrI d (nth (a ++ b) k)) + (nth (signed a b) k).amt → (∀ y, mg (mput M (yrI d (nth (a ++ b) k)) v) y = Dsum d ((signed a b).take (k + 1)) y) := fun v hv y => by
          rw [mg_mput, take_nth (by rw [lE]; exact hk), Dsum_snoc, eyE, g3 y]
          by_cases e : yrI d (nth (a ++ b) k) = y
          · rw [if_pos e, if_pos e, hv, e, g3 y]
          · rw [if_neg e, if_neg e]; omega
        have hday : ∀ j, j < k + 1 → d ≤ (nth (a ++ b) j).day := fun j hj => by
          rcases Nat.lt_or_ge j k with q | q
          · exact g2 j q
          · obtain rfl : j = k := by omega
            omega
        rw [s2] at hst
        rw [← mg0] at dr
        generalize hC : a ++ b = C at *
        generalize mostY d (C.take k) = Y0 at *
        by_cases hka : k < a.length
        · rw [if_pos hka] at hst
          rw [eyI] at hst e2 hy0 dr
          repeat' (first | ((first | apply U_ | (apply Ug_; exact rfl; exact rfl) | (apply Ugq_; exact rfl; exact rfl)); (first | (apply Q_lookup TYok KI (vc := cellI) (M := M) (k := ((nth C k).day - d) / 365) (r := .one (.int .i64 (mg M (((nth C k).day - d) / 365)))); exact Ev.auto; exact rfl; exact Ev.auto; exact rfl; exact rfl; exact rfl; (unfold mg; cases mget M _ <;> rfl)) | exact QX.B TYok | exact QX.Num TYok | exact QX.Len TYok | exact QX.Idx TYok); exact rfl) | refine SX.Alloc TYok (h := ?_) | refine SX.Store TYok (h := ?_) | refine SX.Lit TYok (h := ?_) | (apply S_mapUpdate TYok KI (vc := cellI); exact Ev.auto; exact rfl; exact Ev.auto; exact Ev.auto; exact rfl; exact rfl; exact rfl) | refine SC ?_ | refine SG ?_ | (refine W.condA (ht := fun hb => ?_) (hf := fun hb => ?_) <;> (try simp at hb) <;> (try (exfalso; omega))))
          all_goals first
            | (refine ⟨(k + 1, _), ⟨by simp only; omega, hday, hst _ rfl⟩, ?_, by simp only; omega⟩; (try dsimp only); rw [e2]; exact Le.auto)
            | (exfalso; omega)
            | trace_state
        · rw [if_neg hka] at hst
          rw [eyI] at hst e2 hy0 dr
          have hst2 : ∀ v, v = mg M (((nth C k).day - d) / 365) - (nth C k).amt → (∀ y, mg (mput M (((nth C k).day - d) / 365) v) y = Dsum d ((signed a b).take (k + 1)) y) := fun v hv => hst v (by omega)
          repeat' (first | ((first | apply U_ | (apply Ug_; exact rfl; exact rfl) | (apply Ugq_; exact rfl; exact rfl)); (first | (apply Q_lookup TYok KI (vc := cellI) (M := M) (k := ((nth C k).day - d) / 365) (r := .one (.int .i64 (mg M (((nth C k).day - d) / 365)))); exact Ev.auto; exact rfl; exact Ev.auto; exact rfl; exact rfl; exact rfl; (unfold mg; cases mget M _ <;> rfl)) | exact QX.B TYok | exact QX.Num TYok | exact QX.Len TYok | exact QX.Idx TYok); exact rfl) | refine SX.Alloc TYok (h := ?_) | refine SX.Store TYok (h := ?_) | refine SX.Lit TYok (h := ?_) | (apply S_mapUpdate TYok KI (vc := cellI); exact Ev.auto; exact rfl; exact Ev.auto; exact Ev.auto; exact rfl; exact rfl; exact rfl) | refine SC ?_ | refine SG ?_ | (refine W.condA (ht := fun hb => ?_) (hf := fun hb => ?_) <;> (try simp at hb) <;> (try (exfalso; omega))))
          all_goals first
            | (refine ⟨(k + 1, _), ⟨by simp only; omega, hday, hst2 _ rfl⟩, ?_, by simp only; omega⟩; (try dsimp only); rw [e2]; exact Le.auto)
            | (exfalso; omega)
            | trace_state
    obtain rfl : k = (a ++ b).length := by omega
    have ia : LIn a d := ⟨h1.1, fun f hf => by
      obtain ⟨i, hi, rfl⟩ := List.getElem_of_mem hf
      have := g2 i (by omega)
      rw [nth_eq (by omega), List.getElem_append_left hi] at this
      exact this⟩
    have ib : LIn b d := ⟨h1.2, fun f hf => by
      obtain ⟨i, hi, rfl⟩ := List.getElem_of_mem hf
      have := g2 (a.length + i) (by omega)
      rw [nth_eq (by omega), List.getElem_append_right (by omega)] at this
      simpa using this⟩
    rw [dear_iff ia ib, ← mostY_app] at hbb
    rw [List.take_length]
    have g3' : ∀ y, mg M y = Dsum d (signed a b) y := fun y => by rw [g3 y, ← lE, List.take_length]
    have hdiff : ∀ n : Int, Uof d (signed a b) n = Uof d a n - Uof d b n := fun n => by
      unfold signed
      rw [Uof_app, Uof_neg]; omega
    have ur := Uof_rng' (d := d) rE
    have dr := Dsum_rng (d := d) rE
    have nx := Uof_next d (signed a b)
    have u0 : Uof d (signed a b) 0 = 0 := by
      rw [hdiff, Uof_zero ia.early (by omega), Uof_zero ib.early (by omega)]; rfl
    have m0 := mostY_nn d (a ++ b)
    have m1 := mostY_le (d := d) (l := a ++ b) (fun f hf => by
      rcases List.mem_append.1 hf with h | h
      · exact (ia.yr h).2
      · exact (ib.yr h).2)
    have lE2 : ((signed a b).length : Int) ≤ 800 := by rw [lE]; omega
    clear g1 g2 g3 hsg cc
    generalize signed a b = E at *
    generalize mostY d (a ++ b) = Y0 at *
    repeat' (first | ((first | apply U_ | (apply Ug_; exact rfl; exact rfl) | (apply Ugq_; exact rfl; exact rfl)); (first | exact QX.B TYok | exact QX.Num TYok | exact QX.Len TYok | exact QX.Idx TYok); exact rfl) | refine SX.Alloc TYok (h := ?_) | refine SX.Store TYok (h := ?_) | refine SX.Lit TYok (h := ?_) | refine SC ?_ | refine SG ?_ | (refine W.condA (ht := fun hb => ?_) (hf := fun hb => ?_) <;> (try simp at hb) <;> (try (exfalso; omega))))
    apply W.loopP (σ := Nat) 76 [7, 8] (fun k => ((k : Int) ≤ Y0 + 1) ∧ ∀ j : Nat, j < k → 0 ≤ Uof d E (j + 1)) (fun k => [(13, vI k), (12, vI (Uof d E k))]) (fun _ => [(24, ⟨mapTag, 0, M.map (mrow kI cellI)⟩)]) (fun k => (Y0 + 1).toNat - k) (0)
    case hp => repeat (first | exact Pick.nil | apply Pick.cons rfl)
    case h0 =>
      refine ⟨⟨by omega, fun j hj => by omega⟩, ?_⟩
      rw [show Uof d E ((0 : Nat) : Int) = 0 from u0]
      exact Le.auto
    case round =>
      rintro k ⟨gk, gq⟩
      apply W.norm (by repeat (first | exact App.nil | apply App.cons))
      by_cases hk : (k : Int) ≤ Y0
      · have n1 := nx (k : Int)
        rw [← g3' (k : Int)] at n1
        have r1 := ur (k : Int)
        have r2 := dr (k : Int)
        rw [← g3' (k : Int)] at r2
        have hd2 := hdiff ((k : Int) + 1)
        by_cases hlt : Uof d E ((k : Int) + 1) < 0
        · have e : bb = false := by
            rw [Bool.eq_false_iff]
            intro q
            have := hbb.1 q k hk
            omega
          subst e
          generalize Uof d E ((k : Int) + 1) = X1 at *
          generalize Uof d E (k : Int) = X at *
          repeat' (first | ((first | apply U_ | (apply Ug_; exact rfl; exact rfl) | (apply Ugq_; exact rfl; exact rfl)); (first | (apply Q_lookup TYok KI (vc := cellI) (M := M) (k := (k : Int)) (r := .one (.int .i64 (mg M (k : Int)))); exact Ev.auto; exact rfl; exact Ev.auto; exact rfl; exact rfl; exact rfl; (unfold mg; cases mget M _ <;> rfl)) | exact QX.B TYok | exact QX.Num TYok | exact QX.Len TYok | exact QX.Idx TYok); exact rfl) | refine SX.Alloc TYok (h := ?_) | refine SX.Store TYok (h := ?_) | refine SX.Lit TYok (h := ?_) | refine SC ?_ | refine SG ?_ | (refine W.condA (ht := fun hb => ?_) (hf := fun hb => ?_) <;> (try simp at hb) <;> (try (exfalso; omega))))
          all_goals first
            | exact Fin.ret ResL.auto
            | (exfalso; omega)
            | trace_state
        · have gq' : ∀ j : Nat, j < k + 1 → 0 ≤ Uof d E (j + 1) := fun j hj => by
            rcases Nat.lt_or_ge j k with q | q
            · exact gq j q
            · obtain rfl : j = k := by omega
              omega
          generalize hX1 : Uof d E ((k : Int) + 1) = X1 at *
          generalize Uof d E (k : Int) = X at *
          repeat' (first | ((first | apply U_ | (apply Ug_; exact rfl; exact rfl) | (apply Ugq_; exact rfl; exact rfl)); (first | (apply Q_lookup TYok KI (vc := cellI) (M := M) (k := (k : Int)) (r := .one (.int .i64 (mg M (k : Int)))); exact Ev.auto; exact rfl; exact Ev.auto; exact rfl; exact rfl; exact rfl; (unfold mg; cases mget M _ <;> rfl)) | exact QX.B TYok | exact QX.Num TYok | exact QX.Len TYok | exact QX.Idx TYok); exact rfl) | refine SX.Alloc TYok (h := ?_) | refine SX.Store TYok (h := ?_) | refine SX.Lit TYok (h := ?_) | refine SC ?_ | refine SG ?_ | (refine W.condA (ht := fun hb => ?_) (hf := fun hb => ?_) <;> (try simp at hb) <;> (try (exfalso; omega))))
          all_goals first
            | (refine ⟨k + 1, ⟨by omega, gq'⟩, ?_, by omega⟩; (try dsimp only); rw [show (((k + 1 : Nat)) : Int) = (k : Int) + 1 by omega, hX1, n1]; exact Le.auto)
            | (exfalso; omega)
            | trace_state
      · obtain rfl : bb = true := hbb.2 fun n hn => by
          have := gq n (by omega)
          have := hdiff ((n : Int) + 1)
          omega
        repeat' (first | ((first | apply U_ | (apply Ug_; exact rfl; exact rfl) | (apply Ugq_; exact rfl; exact rfl)); (first | exact QX.B TYok | exact QX.Num TYok | exact QX.Len TYok | exact QX.Idx TYok); exact rfl) | refine SX.Alloc TYok (h := ?_) | refine SX.Store TYok (h := ?_) | refine SX.Lit TYok (h := ?_) | refine SC ?_ | refine SG ?_ | (refine W.condA (ht := fun hb => ?_) (hf := fun hb => ?_) <;> (try simp at hb) <;> (try (exfalso; omega))))
        all_goals first
          | exact Fin.ret ResL.auto
          | (exfalso; omega)
          | trace_state
end
end Go.Proofs.Ytgpcmgjdkefdjaa
end
section
set_option linter.unusedVariables false
set_option linter.unusedSimpArgs false
set_option maxHeartbeats 8000000
set_option linter.unusedSectionVars false
namespace Go.Proofs.Ytgpcmgjdkefdjaa
open Lf Go
attribute [local irreducible] PureOp EffOp Ev RG W Then InBlock Lf.Fin nth App InitE Pick SubE EvL EvD EvP EvR ResL Lf.Lex SubR SubBR RA RAll EvC FinO FinM ResM ResD FinS val pw digs trimL
section
theorem fqOf_right {r : Rat} (h : okF r) : (fqOf r).right = true := by
  have hp := den_pos r
  unfold Fq.right fqOf rightFB
  have c := sgn_cases r.den
  rw [num_right h.1, num_right h.2, decide_eq_true (show sgn r.den = 1 by omega), val_mag, val_mag, sgn_mag, show mag r.den = r.den by omega, num_den_gcd]; rfl
theorem nth_fq {R : List Rat} {k : Nat} (hk : k < R.length) : nth (R.map fqOf) k = fqOf (nth R k) := by
  rw [nth_eq (by simpa using hk), List.getElem_map, nth_eq hk]
theorem FOk_of {R : List Rat} (ok : ∀ r ∈ R, okF r) (hl : 1 ≤ R.length ∧ R.length ≤ 60) (h : ∀ k, k < R.length → 0 < nth R k ∧ nth R k ≤ if k = 0 then 1 else nth R (k - 1)) : FOk (R.map fqOf) := by
  refine ⟨fun k hk => ?_, by simpa using hl⟩
  have hk' : k < R.length := by simpa using hk
  have o := ok _ (nth_mem hk')
  obtain ⟨h1, h2⟩ := h k hk'
  unfold chk
  rw [nth_fq hk', fqOf_val o]
  refine ⟨fqOf_right o, h1, ?_⟩
  unfold prv
  by_cases e : k = 0
  · rw [if_pos e] at h2 ⊢
    exact h2
  · rw [if_neg e] at h2 ⊢
    rw [nth_fq (by omega), fqOf_val (ok _ (nth_mem (by omega)))]
    exact h2
theorem fewF_of {R : List Rat} (h : ∀ r ∈ R, bd r 6) : fewF (R.map fqOf) := fun q hq => by
  obtain ⟨r, hr, rfl⟩ := List.mem_map.1 hq
  obtain ⟨h1, h2⟩ := h r hr
  have a := sgn_cases r.num
  have b := sgn_cases r.den
  exact ⟨(digs_len (mag_nn _)).2 (by omega), (digs_len (mag_nn _)).2 (by omega)⟩
theorem few_FqOk {L : List Fq} (h : fewF L) : ∀ q ∈ L, FqOk q := fun q hq => by
  have := h q hq
  unfold FqOk
  omega
theorem addsOk_few {l : List Fl} {d : Int} {L : List Fq} (hv : VIn l d L) (h : l.length ≤ 4) : addsOk L d l := by
  have key : ∀ k, k ≤ l.length → bd (vsum L d l k) (4 + 11 * k) := by
    intro k
    induction k with
    | zero => exact fun _ => int_bd (n := 0) (by omega)
    | succ k ih =>
      intro hk
      have b := ih (by omega)
      have t := (hv.term_bd (k := k) (by omega)).2.1
      exact (add_bd (k := 4 + 11 * k + 10) (by omega) b t (by omega)).1
  intro j hj
  exact (add_bd (k := 4 + 11 * j + 10) (by omega) (key j (by omega)) (hv.term_bd hj).2.1 (by omega)).2
attribute [local irreducible] sgn mag gcdZ quoZ remZ fullZ fullE
theorem of_ok (n m : Int) (h : i64B n) (hm : i64B m) (h0 : m ≠ 0) : ACalls Try.prog 25 [cI n, cI m] (.pv (zF (Rat.divInt n m))) := by
  have n1 := qOf_ok n m h hm h0
  generalize Rat.divInt n m = r at *
  refine ACalls.of_M TYok (qs := [zF r]) [.cell 4 31] 8 Try.func25 (by kernel_rfl) rfl rfl rfl fun G => ?_
  refine W.initA (hw := ?_)
  repeat' (first | ((first | apply U_); (first | exact QX.B TYok | exact QCd (n1)); exact rfl) | refine SX.Alloc TYok (h := ?_) | refine SX.Store TYok (h := ?_) | refine SC ?_ | (refine W.condA (ht := fun hb => ?_) (hf := fun hb => ?_) <;> (try simp at hb) <;> (try (exfalso; omega))))
  all_goals exact FinM.ret ResM.auto
theorem ofw_ok (n : Int) (h : i64B n) : ACalls Try.prog 25 [cI n, cI 1] (.pv (zF (n : Rat))) := by
  rw [← divInt_one]
  exact of_ok n 1 h (by unfold i64B; omega) (by omega)
theorem ints_same (l : List Int) (hl : l.length ≤ 20) : ACalls Try.prog 15 [slI' l, slI' l] (.pv (cB true)) := by
  refine ACalls.of_W (qs := [cB true]) [4] 26 Try.func15 (by kernel_rfl) rfl rfl rfl fun G => ?_
  refine W.initA (hw := ?_)
  repeat' (first | (exfalso; omega) | ((first | apply U_ | apply Lex.u | (apply Lex.g; exact rfl; exact rfl) | (apply Lex.gq; exact rfl; exact rfl)); (first | exact QX.B TYok | exact QX.Len TYok | exact QX.Idx TYok); exact rfl) | refine SC ?_ | (apply W.draw2 (id := 6) [0, 0, 3, 7, 0, 0, 48, 112, 255] [[0], [5], [17, 18], [19], [1], [5], [21, 22], [23], [20, 24]] 9 [(17, 1), (18, 32), (19, 393216), (20, 524288), (21, 2), (22, 32), (23, 6291456), (24, 8388608), (25, 17825792)] mixed (by kernel_rfl) rfl rfl) | (refine W.condA (ht := fun hb => ?_) (hf := fun hb => ?_) <;> (try simp at hb) <;> (try (exfalso; omega))))
  apply W.loopP (σ := Nat) 26 [0, 1] (fun k => k ≤ l.length) (fun k => [(5, vI k)]) (fun _ => []) (fun k => l.length - k) (0)
  case hp => repeat (first | exact Pick.nil | apply Pick.cons rfl)
  case h0 =>
    refine ⟨by simp, ?_⟩
    exact Le.auto
  case round =>
    rintro k g1
    apply W.norm (by repeat (first | exact App.nil | apply App.cons))
    by_cases hk : k < l.length
    · repeat' (first | ((first | apply U_ | apply Lex.u | (apply Lex.g; exact rfl; exact rfl) | (apply Lex.gq; exact rfl; exact rfl)); (first | exact QX.B TYok | exact QX.Len TYok | exact QX.Idx TYok); exact rfl) | refine SC ?_ | (apply W.draw2 (id := 6) [0, 0, 3, 7, 0, 0, 48, 112, 255] [[0], [5], [17, 18], [19], [1], [5], [21, 22], [23], [20, 24]] 9 [(17, 1), (18, 32), (19, 393216), (20, 524288), (21, 2), (22, 32), (23, 6291456), (24, 8388608), (25, 17825792)] mixed (by kernel_rfl) rfl rfl) | (refine W.condA (ht := fun hb => ?_) (hf := fun hb => ?_) <;> (try simp at hb) <;> (try (exfalso; omega))))
      all_goals first
        | (refine ⟨k + 1, by omega, ?_, by omega⟩; exact Le.auto)
        | (exfalso; omega)
        | trace_state
    · obtain rfl : k = l.length := by omega
      repeat' (first | ((first | apply U_ | apply Lex.u | (apply Lex.g; exact rfl; exact rfl) | (apply Lex.gq; exact rfl; exact rfl)); (first | exact QX.B TYok | exact QX.Len TYok | exact QX.Idx TYok); exact rfl) | refine SC ?_ | (apply W.draw2 (id := 6) [0, 0, 3, 7, 0, 0, 48, 112, 255] [[0], [5], [17, 18], [19], [1], [5], [21, 22], [23], [20, 24]] 9 [(17, 1), (18, 32), (19, 393216), (20, 524288), (21, 2), (22, 32), (23, 6291456), (24, 8388608), (25, 17825792)] mixed (by kernel_rfl) rfl rfl) | (refine W.condA (ht := fun hb => ?_) (hf := fun hb => ?_) <;> (try simp at hb) <;> (try (exfalso; omega))))
      all_goals first
        | exact Fin.ret ResL.auto
        | trace_state
theorem few_ok (l : List Fl) (L : List Fq) (hl : l.length ≤ 9223372036854775807) (hL : L.length ≤ 9223372036854775807) (b : Bool) (hbb : b = true ↔ (l.length ≤ 20 ∧ L.length ≤ 12) ∧ fewF L) : ACalls Try.prog 9 [slW l, slF L] (.pv (cB b)) := by
  refine ACalls.of_W (qs := [cB b]) [4] 42 Try.func9 (by kernel_rfl) rfl rfl rfl fun G => ?_
  refine W.initA (hw := ?_)
  repeat' (first | ((first | apply U_ | (apply Ug_; exact rfl; exact rfl) | (apply Ugq_; exact rfl; exact rfl)); (first | exact QX.B TYok | exact QX.Len TYok | exact QX.Idx TYok); exact rfl) | refine SC ?_ | refine SG ?_ | (refine W.condA (ht := fun hb => ?_) (hf := fun hb => ?_) <;> (try simp at hb) <;> (try (exfalso; omega))))
  apply W.loopP (σ := Nat) 42 [0, 1] (fun k => k ≤ L.length ∧ k ≤ 13 ∧ ∀ j, j < k → (nth L j).d.length ≤ 6 ∧ (nth L j).d'.length ≤ 6) (fun k => [(5, vI k)]) (fun _ => []) (fun k => L.length - k) (0)
  case hp => repeat (first | exact Pick.nil | apply Pick.cons rfl)
  case h0 =>
    refine ⟨⟨by omega, by omega, fun j hj => by omega⟩, ?_⟩
    exact Le.auto
  case round =>
    rintro k ⟨g1, g2, g3⟩
    apply W.norm (by repeat (first | exact App.nil | apply App.cons))
    by_cases hk : k < L.length ∧ k ≤ 12
    · by_cases hw : (nth L k).d.length ≤ 6 ∧ (nth L k).d'.length ≤ 6
      · repeat' (first | ((first | apply U_ | (apply Ug_; exact rfl; exact rfl) | (apply Ugq_; exact rfl; exact rfl)); (first | exact QX.B TYok | exact QX.Len TYok | exact QX.Idx TYok); exact rfl) | refine SC ?_ | refine SG ?_ | (refine W.condA (ht := fun hb => ?_) (hf := fun hb => ?_) <;> (try simp at hb) <;> (try (exfalso; omega))))
        all_goals first
          | (refine ⟨k + 1, ⟨by omega, by omega, fun j hj => ?_⟩, ?_, by omega⟩
             · rcases Nat.lt_or_ge j k with q | q
               · exact g3 j q
               · obtain rfl : j = k := by omega
                 exact hw
             · exact Le.auto)
          | (exfalso; omega)
          | trace_state
      · have e : b = false := by
          rw [Bool.eq_false_iff]
          exact fun q => hw ((hbb.1 q).2 _ (nth_mem hk.1))
        subst e
        repeat' (first | ((first | apply U_ | (apply Ug_; exact rfl; exact rfl) | (apply Ugq_; exact rfl; exact rfl)); (first | exact QX.B TYok | exact QX.Len TYok | exact QX.Idx TYok); exact rfl) | refine SC ?_ | refine SG ?_ | (refine W.condA (ht := fun hb => ?_) (hf := fun hb => ?_) <;> (try simp at hb) <;> (try (exfalso; omega))))
        all_goals first
          | exact Fin.ret ResL.auto
          | (exfalso; omega)
          | trace_state
    · have e : b = (decide ((l.length : Int) ≤ 20) && decide ((L.length : Int) ≤ 12)) := by
        rw [Bool.eq_iff_iff, hbb, Bool.and_eq_true, decide_eq_true_iff, decide_eq_true_iff]
        constructor
        · rintro ⟨⟨h1, h2⟩, _⟩; omega
        · rintro ⟨h1, h2⟩
          refine ⟨by omega, fun q hq => ?_⟩
          obtain ⟨i, hi, rfl⟩ := List.getElem_of_mem hq
          rw [← nth_eq hi]
          exact g3 i (by omega)
      subst e
      clear hbb
      repeat' (first | ((first | apply U_ | (apply Ug_; exact rfl; exact rfl) | (apply Ugq_; exact rfl; exact rfl)); (first | exact QX.B TYok | exact QX.Len TYok | exact QX.Idx TYok); exact rfl) | refine SC ?_ | refine SG ?_ | (refine W.condA (ht := fun hb => ?_) (hf := fun hb => ?_) <;> (try simp at hb) <;> (try (exfalso; omega))))
      all_goals first
        | exact Fin.ret ResL.auto
        | (exfalso; omega)
        | trace_state
/-- what is small: 10^-18 -/
def eps : Rat := Rat.divInt 1 1000000000000000000
def wit (n : Int) (m : Nat) : List Rat := (List.range m).map fun i : Nat => if (i : Int) < n then (1 : Rat) else eps
theorem wit_len (n : Int) (m : Nat) : (wit n m).length = m := by simp [wit]
theorem wit_nth {n : Int} {m k : Nat} (h : k < m) : nth (wit n m) k = if (k : Int) < n then (1 : Rat) else eps := by
  rw [nth_eq (by rw [wit_len]; exact h)]
  simp [wit]
theorem witness_ok (n : Int) : ACalls Try.prog 22 [cI n, cI 12] (.pv (slQ (wit n 12))) := by
  have o1 := ofw_ok 1 (by unfold i64B; omega)
  rw [rat1] at o1
  have o2 : ACalls Try.prog 25 [cI 1, cI 1000000000000000000] (.pv (zF eps)) := of_ok 1 1000000000000000000 (by unfold i64B; omega) (by unfold i64B; omega) (by omega)
  have step : ∀ k, wit n (k + 1) = wit n k ++ [if (k : Int) < n then (1 : Rat) else eps] := fun k => by unfold wit; rw [List.range_succ, List.map_append]; rfl
  generalize hE : eps = E at o2
  generalize hI : (1 : Rat) = I at o1
  refine ACalls.of_W (qs := [slQ (wit n 12)]) [4] 24 Try.func22 (by kernel_rfl) rfl rfl rfl fun G => ?_
  refine W.initA (hw := ?_)
  repeat' (first | ((first | apply U_); (first | exact QX.B TYok); exact rfl) | refine SX.Lit TYok (h := ?_) | refine SX.App TYok (h := ?_) | refine SC ?_ | (refine W.condA (ht := fun hb => ?_) (hf := fun hb => ?_) <;> (try simp at hb) <;> (try (exfalso; omega))))
  refine W.weaken (Le.nilOwn (t := 5) (n := 5) (E := 31) (sz := 4) rfl) ?_
  apply W.loopP (σ := Nat) 24 [0, 1] (fun k => k ≤ 12) (fun k => [(6, vI k), (5, (True, .slc 5))]) (fun k => [(5, ⟨31, 4, (wit n k).map encQ⟩)]) (fun k => 12 - k) (0)
  case hp => repeat (first | exact Pick.nil | apply Pick.cons rfl)
  case h0 =>
    refine ⟨by omega, ?_⟩
    exact Le.auto
  case round =>
    rintro k gk
    apply W.norm (by repeat (first | exact App.nil | apply App.cons))
    have e1 := step k
    have l1 := wit_len n k
    by_cases hk : k < 12
    · generalize wit n k = M at *
      by_cases hn : (k : Int) < n
      · rw [if_pos hn, hI] at e1
        repeat' (first | ((first | apply U_); (first | exact QX.B TYok | exact QCd (o1)); exact rfl) | refine SX.Lit TYok (h := ?_) | refine SX.App TYok (h := ?_) | refine SC ?_ | (refine W.condA (ht := fun hb => ?_) (hf := fun hb => ?_) <;> (try simp at hb) <;> (try (exfalso; omega))))
        all_goals first
          | (refine ⟨k + 1, by omega, ?_, by omega⟩
             (try dsimp only)
             rw [e1, List.map_append, List.map_cons, List.map_nil]
             exact Le.auto)
          | (exfalso; omega)
          | trace_state
      · rw [if_neg hn, hE] at e1
        repeat' (first | ((first | apply U_); (first | exact QX.B TYok | exact QCd (o2)); exact rfl) | refine SX.Lit TYok (h := ?_) | refine SX.App TYok (h := ?_) | refine SC ?_ | (refine W.condA (ht := fun hb => ?_) (hf := fun hb => ?_) <;> (try simp at hb) <;> (try (exfalso; omega))))
        all_goals first
          | (refine ⟨k + 1, by omega, ?_, by omega⟩
             (try dsimp only)
             rw [e1, List.map_append, List.map_cons, List.map_nil]
             exact Le.auto)
          | (exfalso; omega)
          | trace_state
    · obtain rfl : k = 12 := by omega
      repeat' (first | ((first | apply U_); (first | exact QX.B TYok); exact rfl) | refine SX.Lit TYok (h := ?_) | refine SX.App TYok (h := ?_) | refine SC ?_ | (refine W.condA (ht := fun hb => ?_) (hf := fun hb => ?_) <;> (try simp at hb) <;> (try (exfalso; omega))))
      all_goals first
        | exact Fin.ret ResL.auto
        | (exfalso; omega)
        | trace_state
/-- what Cost of both returns -/
theorem cost_both (l : List Fl) (d : Int) (S : List (List Fq)) (hl : l.length ≤ 9223372036854775807) (hS : S.length ≤ 9223372036854775807) (hok : SOk S) : ∃ V e, ACalls Try.prog 12 [slW l, cI d, slS S] (.tup [slI' V, cI e]) ∧ ACalls Try.prog 13 [slW l, cI d, slS S] (.tup [slI' V, cI e]) ∧ (e ≠ 0 → V = []) ∧
    (e = 0 → (1 ≤ S.length ∧ S.length ≤ 20) ∧ allZero l d S S.length ∧ V = (S.map (vS l d)).map ceilR ∧ ∀ j, j < S.length → goodB (vS l d (nth S j)) = true) ∧ ((1 ≤ S.length ∧ S.length ≤ 20) → allZero l d S S.length → (∀ j, j < S.length → goodB (vS l d (nth S j)) = true) → e = 0) := by
  by_cases h : 1 ≤ S.length ∧ S.length ≤ 20
  case neg =>
    obtain ⟨c1, c2⟩ := cost_arg l d S hl hS hok h
    exact ⟨[], 1, c1, c2, fun _ => rfl, fun q => absurd q (by decide), fun q => absurd q h⟩
  by_cases hz : allZero l d S S.length
  case neg =>
    obtain ⟨n, n1, n2⟩ := least_ex (p := fun j => j < S.length ∧ valE l d (nth S j) ≠ 0) (Classical.choose (Classical.not_forall.1 hz)) (by
      have := Classical.choose_spec (Classical.not_forall.1 hz)
      exact Classical.not_imp.1 this)
    have hz' : allZero l d S n := fun j hj => Classical.not_not.1 fun q => n2 j hj ⟨by omega, q⟩
    exact ⟨[], _, cost_fail l d S hl hS hok h n n1.1 hz' n1.2, rcost_fail l d S hl hS hok h n n1.1 hz' n1.2, fun _ => rfl, fun q => absurd q n1.2, fun _ q => absurd q hz⟩
  by_cases hg : ∀ j, j < S.length → goodB (vS l d (nth S j)) = true
  · exact ⟨_, 0, cost_walk l d S hl hS hok h hz S.length (Nat.le_refl _) hg _ 0 (.inl ⟨rfl, rfl, rfl⟩), rcost_walk l d S hl hS hok h hz _ 0 (.inl ⟨rfl, hg, rfl⟩), fun q => absurd rfl q, fun _ => ⟨h, hz, rfl, hg⟩, fun _ _ _ => rfl⟩
  · obtain ⟨n, n1, n2⟩ := least_ex (p := fun j => j < S.length ∧ goodB (vS l d (nth S j)) = false) (Classical.choose (Classical.not_forall.1 hg)) (by
      have := Classical.choose_spec (Classical.not_forall.1 hg)
      have := Classical.not_imp.1 this
      exact ⟨this.1, Bool.not_eq_true _ ▸ this.2⟩)
    have hg' : ∀ j, j < n → goodB (vS l d (nth S j)) = true := fun j hj => by
      have := n2 j hj
      cases e : goodB (vS l d (nth S j)) with
      | true => rfl
      | false => exact absurd ⟨by omega, e⟩ this
    exact ⟨[], 3, cost_walk l d S hl hS hok h hz n (by omega) hg' _ 3 (.inr ⟨rfl, n1.1, n1.2, rfl⟩), rcost_walk l d S hl hS hok h hz _ 3 (.inr ⟨rfl, ⟨n, n1⟩, rfl⟩), fun _ => rfl, fun q => absurd q (by decide), fun _ _ q => absurd q hg⟩
end
end Go.Proofs.Ytgpcmgjdkefdjaa
end
section
set_option linter.unusedVariables false
set_option linter.unusedSimpArgs false
set_option maxHeartbeats 8000000
set_option linter.unusedSectionVars false
namespace Go.Proofs.Ytgpcmgjdkefdjaa
open Lf Go
attribute [local irreducible] PureOp EffOp Ev RG W Then InBlock Lf.Fin nth App InitE Pick SubE EvL EvD EvP EvR ResL Lf.Lex SubR SubBR RA RAll EvC FinO FinM ResM ResD FinS val pw digs trimL
section
def sR : List Rat := [Rat.divInt 1 1, Rat.divInt 9 10, Rat.divInt 1 2]
def sR2 : List Rat := [Rat.divInt 1 1, Rat.divInt 1 3]
theorem sR_ok : (∀ k, k < 3 → 0 < nth sR k ∧ nth sR k ≤ if k = 0 then 1 else nth sR (k - 1)) ∧ (∀ k, k < 2 → 0 < nth sR2 k ∧ nth sR2 k ≤ if k = 0 then 1 else nth sR2 (k - 1)) := by
  constructor
  · intro k hk
    match k, hk with
    | 0, _ => decide +kernel
    | 1, _ => decide +kernel
    | 2, _ => decide +kernel
  · intro k hk
    match k, hk with
    | 0, _ => decide +kernel
    | 1, _ => decide +kernel
theorem bdc {p q : Int} (hp : -1208925819614629174706176 < p ∧ p < 1208925819614629174706176) (hq : -1208925819614629174706176 < q ∧ q < 1208925819614629174706176) (h : q ≠ 0) : bd (Rat.divInt p q) 6 := by
  have e := pw4
  exact bd_mono (bd_div (n := 4) h (by omega) (by omega)) (by omega)
theorem sR_bd : (∀ r ∈ sR, bd r 6) ∧ ∀ r ∈ sR2, bd r 6 := by
  constructor
  · intro r hr
    unfold sR at hr
    rcases List.mem_cons.1 hr with rfl | hr
    · exact bdc (by omega) (by omega) (by omega)
    rcases List.mem_cons.1 hr with rfl | hr
    · exact bdc (by omega) (by omega) (by omega)
    rcases List.mem_cons.1 hr with rfl | hr
    · exact bdc (by omega) (by omega) (by omega)
    · cases hr
  · intro r hr
    unfold sR2 at hr
    rcases List.mem_cons.1 hr with rfl | hr
    · exact bdc (by omega) (by omega) (by omega)
    rcases List.mem_cons.1 hr with rfl | hr
    · exact bdc (by omega) (by omega) (by omega)
    · cases hr
theorem bd6_ok {R : List Rat} (h : ∀ r ∈ R, bd r 6) : ∀ r ∈ R, okF r := fun r hr => bd_ok (h r hr) (by omega)
theorem sFOk : FOk (sR.map fqOf) ∧ FOk (sR2.map fqOf) := ⟨FOk_of (bd6_ok sR_bd.1) (by decide) sR_ok.1, FOk_of (bd6_ok sR_bd.2) (by decide) sR_ok.2⟩
/-- the value with factors that are given as1 numbers -/
def vsumR (R : List Rat) (d : Int) (l : List Fl) : Nat → Rat
  | 0 => 0
  | k + 1 => vsumR R d l k + ((nth l k).amt : Rat) * nth R (yrI d (nth l k)).toNat
theorem vsumR_eq {R : List Rat} (ok : ∀ r ∈ R, okF r) {d : Int} {l : List Fl} (h : ∀ k, k < l.length → (yrI d (nth l k)).toNat < R.length) : ∀ n, n ≤ l.length → vsum (R.map fqOf) d l n = vsumR R d l n
  | 0, _ => rfl
  | n + 1, hn => by
    have hk := h n (by omega)
    rw [vsum, vsumR, vsumR_eq ok h n (by omega), term, nth_fq hk, fqOf_val (ok _ (nth_mem hk))]
def s1 : List Fl := [⟨100, 10⟩, ⟨465, 20⟩, ⟨900, 30⟩]
def s2 : List Fl := [⟨99, 10⟩]
def s3 : List Fl := [⟨1195, 10⟩]
def s4 : List Fl := [⟨500, 5⟩]
theorem s1_vin : VIn s1 100 (sR.map fqOf) := ⟨by decide +kernel, sFOk.1, fewF_of sR_bd.1, by decide +kernel, by decide +kernel⟩
theorem s4_vin : VIn s4 100 (sR.map fqOf) ∧ VIn s4 100 (sR2.map fqOf) := ⟨⟨by decide +kernel, sFOk.1, fewF_of sR_bd.1, by decide +kernel, by decide +kernel⟩, ⟨by decide +kernel, sFOk.2, fewF_of sR_bd.2, by decide +kernel, by decide +kernel⟩⟩
theorem s1_val : vsum (sR.map fqOf) 100 s1 3 = Rat.divInt 43 1 := by
  rw [vsumR_eq (bd6_ok sR_bd.1) (by decide +kernel) 3 (by decide)]
  decide +kernel
theorem s4_val : vsum (sR.map fqOf) 100 s4 1 = Rat.divInt 9 2 ∧ vsum (sR2.map fqOf) 100 s4 1 = Rat.divInt 5 3 := by
  rw [vsumR_eq (bd6_ok sR_bd.1) (by decide +kernel) 1 (by decide), vsumR_eq (bd6_ok sR_bd.2) (by decide +kernel) 1 (by decide)]
  decide +kernel
theorem s_e : valE s2 100 (sR.map fqOf) = 20 ∧ valE s3 100 (sR.map fqOf) = 3 := by
  constructor
  · unfold valE
    rw [if_neg (fun q => q ⟨by decide +kernel, sFOk.1⟩), if_pos (by decide +kernel)]
  · unfold valE
    rw [if_neg (fun q => q ⟨by decide +kernel, sFOk.1⟩), if_neg (by decide +kernel), if_pos (by decide +kernel)]
theorem s_ceil : (ceilR (Rat.divInt 9 2) = 5 ∧ goodB (Rat.divInt 9 2) = true) ∧ (ceilR (Rat.divInt 5 3) = 2 ∧ goodB (Rat.divInt 5 3) = true) := by decide +kernel
def t1 : List Fl := [⟨100, 10⟩]
def t2 : List Fl := [⟨500, 10⟩]
def t3 : List Fl := [⟨100, 10⟩, ⟨500, 5⟩]
def t4 : List Fl := [⟨100, 4⟩, ⟨500, 12⟩]
theorem s_dear : Dear t1 t2 100 ∧ ¬ Dear t2 t1 100 ∧ ¬ Dear t3 t4 100 := by
  have a1 : LIn t1 100 := ⟨by decide +kernel, by decide +kernel⟩
  have a2 : LIn t2 100 := ⟨by decide +kernel, by decide +kernel⟩
  refine ⟨(dear_iff a1 a2).2 fun n hn => ?_, fun q => ?_, fun q => ?_⟩
  · have hn : (n : Int) ≤ 1 := hn
    match n, hn with
    | 0, _ => decide +kernel
    | 1, _ => decide +kernel
  · have := q.2.2 1
    revert this
    decide +kernel
  · have := q.2.2 2
    revert this
    decide +kernel
open Classical in
theorem small_ok : ACalls Try.prog 8 [] (.pv (cB true)) := by
  have ix : ∀ n : Int, (-1000 ≤ n ∧ n ≤ 1000) → i64B n := fun n h => by unfold i64B; omega
  have o1 := of_ok 1 1 (ix _ (by omega)) (ix _ (by omega)) (by omega)
  have o2 := of_ok 9 10 (ix _ (by omega)) (ix _ (by omega)) (by omega)
  have o3 := of_ok 1 2 (ix _ (by omega)) (ix _ (by omega)) (by omega)
  have o4 := of_ok 1 3 (ix _ (by omega)) (ix _ (by omega)) (by omega)
  have o5 := of_ok 43 1 (ix _ (by omega)) (ix _ (by omega)) (by omega)
  have f1 := fewF_of sR_bd.1
  have f2 := fewF_of sR_bd.2
  have v1 := (value_both s1 100 (sR.map fqOf) (by decide) (by decide) (few_FqOk f1) f1).1
  have v2 := (value_both s2 100 (sR.map fqOf) (by decide) (by decide) (few_FqOk f1) f1).1
  have v3 := (value_both s3 100 (sR.map fqOf) (by decide) (by decide) (few_FqOk f1) f1).1
  have e1 := valE_ok s1_vin (addsOk_few s1_vin (by decide))
  rw [show valV s1 100 (sR.map fqOf) = zF (Rat.divInt 43 1) from by unfold valV; rw [if_pos e1]; exact congrArg zF s1_val, e1] at v1
  rw [show valV s2 100 (sR.map fqOf) = zF0 from if_neg (by rw [s_e.1]; decide), s_e.1] at v2
  rw [show valV s3 100 (sR.map fqOf) = zF0 from if_neg (by rw [s_e.2]; decide), s_e.2] at v3
  have z1 := valE_ok s4_vin.1 (addsOk_few s4_vin.1 (by decide))
  have z2 := valE_ok s4_vin.2 (addsOk_few s4_vin.2 (by decide))
  have two : ∀ s, s ∈ [sR.map fqOf, sR2.map fqOf] → s = sR.map fqOf ∨ s = sR2.map fqOf := fun s hs => by simpa using hs
  have so1 : ∀ s ∈ [sR.map fqOf, sR2.map fqOf], fewF s := fun s hs => by
    rcases two s hs with rfl | rfl
    · exact f1
    · exact f2
  have so2 : ∀ s ∈ [sR.map fqOf, sR2.map fqOf], s.length ≤ 9223372036854775807 := fun s hs => by
    rcases two s hs with rfl | rfl <;> decide
  have so : SOk [sR.map fqOf, sR2.map fqOf] := ⟨so1, so2, fun s hs => few_FqOk (so1 s hs)⟩
  have n0 : nth [sR.map fqOf, sR2.map fqOf] 0 = sR.map fqOf := by rw [nth_eq (by simp)]; rfl
  have n1 : nth [sR.map fqOf, sR2.map fqOf] 1 = sR2.map fqOf := by rw [nth_eq (by simp)]; rfl
  obtain ⟨V, e, c1, _, _, c2, c3⟩ := cost_both s4 100 [sR.map fqOf, sR2.map fqOf] (by decide) (by decide) so
  have q1 : vS s4 100 (sR.map fqOf) = Rat.divInt 9 2 := s4_val.1
  have q2 : vS s4 100 (sR2.map fqOf) = Rat.divInt 5 3 := s4_val.2
  have e0 : e = 0 := c3 (by decide) (fun j hj => by
    match j, hj with
    | 0, _ => rw [n0]; exact z1
    | 1, _ => rw [n1]; exact z2) (fun j hj => by
    match j, hj with
    | 0, _ => rw [n0, q1]; exact s_ceil.1.2
    | 1, _ => rw [n1, q2]; exact s_ceil.2.2)
  have eV : V = [5, 2] := by
    rw [(c2 e0).2.2.1]
    simp only [List.map_cons, List.map_nil, q1, q2, s_ceil.1.1, s_ceil.2.1]
  subst e0 eV
  have i1 := ints_same [5, 2] (by decide)
  have m1 := same_any (sgn (Rat.divInt 43 1).num) (digs (mag (Rat.divInt 43 1).num)) (sgn (Rat.divInt 43 1).den) (digs (mag (Rat.divInt 43 1).den)) (by have := num_len (okF_of (x := 43) (y := 1) (i64_ok (ix _ (by omega))) (i64_ok (ix _ (by omega))) (by omega)).1; omega) (by have := num_len (okF_of (x := 43) (y := 1) (i64_ok (ix _ (by omega))) (i64_ok (ix _ (by omega))) (by omega)).2; omega)
  have d1 := dearer_ok t1 t2 100 (by decide) (by decide) true (by simp [s_dear.1])
  have d2 := dearer_ok t2 t1 100 (by decide) (by decide) false (by simp [s_dear.2.1])
  have d3 := dearer_ok t3 t4 100 (by decide) (by decide) false (by simp [s_dear.2.2])
  have k1 := pfac_ok (sR.map fqOf) (by decide) (few_FqOk f1) true (by simp [sFOk.1])
  have k2 := pfac_ok [] (by decide) (fun q hq => by cases hq) false (by simp [FOk])
  rw [show slF (sR.map fqOf) = slQ sR from by rw [slF, slF_of]] at v1 v2 v3 k1
  rw [show slS [sR.map fqOf, sR2.map fqOf] = .one (.sl [[.sl (sR.map encQ)], [.sl (sR2.map encQ)]]) from by rw [slS]; simp only [List.map_cons, List.map_nil, encS, slF_of]] at c1
  clear c2 c3 q1 q2 two so1 so2 n0 n1 so z1 z2 f1 f2 e1 ix
  unfold sR at v1 v2 v3 k1 c1
  unfold sR2 at c1
  unfold s1 at v1
  unfold s2 at v2
  unfold s3 at v3
  unfold s4 at c1
  unfold t1 t2 at d1 d2
  unfold t3 t4 at d3
  generalize Rat.divInt 1 1 = r1 at *
  generalize Rat.divInt 9 10 = r2 at *
  generalize Rat.divInt 1 2 = r3 at *
  generalize Rat.divInt 1 3 = r4 at *
  generalize Rat.divInt 43 1 = r5 at *
  refine ACalls.of_W (qs := [cB true]) [0] 116 Try.func8 (by kernel_rfl) rfl rfl rfl fun G => ?_
  refine W.initA (hw := ?_)
  repeat' (first | (refine W.weaken (Le.freeze1 (m := 51) rfl) ?_; apply W.region (id := 8)) | ((first | apply U_ | (apply Ug_; exact rfl; exact rfl) | (apply Ugq_; exact rfl; exact rfl)); (first | (apply Q_litD TYok; apply EvR.cons Ev.auto; (repeat (first | exact EvR.nil | apply EvR.cons Ev.auto)); exact rfl; exact rfl; exact rfl; exact rfl; exact rfl; exact rfl) | exact QX.B TYok | exact QX.Ext TYok | exact QX.Build TYok | exact QCd (o1) | exact QCd (o2) | exact QCd (o3) | exact QCd (o4) | exact QCd (o5) | exact QCd (v1) | exact QCd (v2) | exact QCd (v3) | exact QCd (c1) | exact QCd (i1) | exact QCd (m1) | exact QCd (d1) | exact QCd (d2) | exact QCd (d3) | exact QCd (k1) | exact QCd (k2)); exact rfl) | refine SX.Alloc TYok (h := ?_) | refine SX.Store TYok (h := ?_) | refine SX.Lit TYok (h := ?_) | refine SX.App TYok (h := ?_) | (apply S_appendd TYok; exact Ev.auto; exact Ev.auto; exact rfl; exact rfl; exact rfl; exact rfl; exact rfl; exact rfl; exact rfl; exact rfl; (intro r hr; first | (obtain ⟨_, _, rfl⟩ := List.mem_map.1 hr; rfl) | (obtain rfl := List.mem_singleton.1 hr; rfl)); (constructor <;> simp <;> omega); exact rfl) | refine SC ?_ | (apply S_isnil TYok; exact rfl; exact rfl; exact rfl; exact Ev.auto; intro bn hnil) | refine SG ?_ | (refine W.drawA (id := 10) (L := [false, false, false, false, false, false, false, false, false, false, false, false, false, false, false, false, false, false, false, false, false, false, false, false, false]) mixed rfl ?_) | exact RAll.nil | (refine RAll.cons rfl ?_ ?_) | (refine RA.step (L := [false, false, false, false, false, false, false, false, false, false, false, false, false, false, false, false, false, false, false, false, false, false, false, false, false]) (i := 0) (is := []) (by kernel_rfl) ?_) | (refine RA.step (L := [true, false, false, false, false, false, false, false, false, false, false, false, false, false, false, false, false, false, false, false, false, false, false, false, false]) (i := 1) (is := []) (by kernel_rfl) ?_) | (refine RA.step (L := [true, true, false, false, false, false, false, false, false, false, false, false, false, false, false, false, false, false, false, false, false, false, false, false, false]) (i := 2) (is := []) (by kernel_rfl) ?_) | (refine RA.step (L := [true, true, true, false, false, false, false, false, false, false, false, false, false, false, false, false, false, false, false, false, false, false, false, false, false]) (i := 3) (is := [4]) (by kernel_rfl) ?_) | (refine RA.step (L := [true, true, true, false, true, false, false, false, false, false, false, false, false, false, false, false, false, false, false, false, false, false, false, false, false]) (i := 3) (is := []) (by kernel_rfl) ?_) | (refine RA.step (L := [true, true, true, true, true, false, false, false, false, false, false, false, false, false, false, false, false, false, false, false, false, false, false, false, false]) (i := 5) (is := []) (by kernel_rfl) ?_) | (refine RA.step (L := [true, true, true, true, true, true, false, false, false, false, false, false, false, false, false, false, false, false, false, false, false, false, false, false, false]) (i := 6) (is := []) (by kernel_rfl) ?_) | (refine RA.step (L := [true, true, true, true, true, true, true, false, false, false, false, false, false, false, false, false, false, false, false, false, false, false, false, false, false]) (i := 7) (is := []) (by kernel_rfl) ?_) | (refine RA.step (L := [true, true, true, true, true, true, true, true, false, false, false, false, false, false, false, false, false, false, false, false, false, false, false, false, false]) (i := 8) (is := []) (by kernel_rfl) ?_) | (refine RA.step (L := [true, true, true, true, true, true, true, true, true, false, false, false, false, false, false, false, false, false, false, false, false, false, false, false, false]) (i := 9) (is := []) (by kernel_rfl) ?_) | (refine RA.step (L := [true, true, true, true, true, true, true, true, true, true, false, false, false, false, false, false, false, false, false, false, false, false, false, false, false]) (i := 10) (is := []) (by kernel_rfl) ?_) | (refine RA.step (L := [true, true, true, true, true, true, true, true, true, true, true, false, false, false, false, false, false, false, false, false, false, false, false, false, false]) (i := 11) (is := []) (by kernel_rfl) ?_) | (refine RA.step (L := [true, true, true, true, true, true, true, true, true, true, true, true, false, false, false, false, false, false, false, false, false, false, false, false, false]) (i := 12) (is := []) (by kernel_rfl) ?_) | (refine RA.step (L := [true, true, true, true, true, true, true, true, true, true, true, true, true, false, false, false, false, false, false, false, false, false, false, false, false]) (i := 13) (is := []) (by kernel_rfl) ?_) | (refine RA.step (L := [true, true, true, true, true, true, true, true, true, true, true, true, true, true, false, false, false, false, false, false, false, false, false, false, false]) (i := 14) (is := []) (by kernel_rfl) ?_) | (refine RA.step (L := [true, true, true, true, true, true, true, true, true, true, true, true, true, true, true, false, false, false, false, false, false, false, false, false, false]) (i := 15) (is := []) (by kernel_rfl) ?_) | (refine RA.step (L := [true, true, true, true, true, true, true, true, true, true, true, true, true, true, true, true, false, false, false, false, false, false, false, false, false]) (i := 16) (is := []) (by kernel_rfl) ?_) | (refine RA.step (L := [true, true, true, true, true, true, true, true, true, true, true, true, true, true, true, true, true, false, false, false, false, false, false, false, false]) (i := 17) (is := []) (by kernel_rfl) ?_) | (refine RA.step (L := [true, true, true, true, true, true, true, true, true, true, true, true, true, true, true, true, true, true, false, false, false, false, false, false, false]) (i := 18) (is := []) (by kernel_rfl) ?_) | (refine RA.step (L := [true, true, true, true, true, true, true, true, true, true, true, true, true, true, true, true, true, true, true, false, false, false, false, false, false]) (i := 19) (is := []) (by kernel_rfl) ?_) | (refine RA.step (L := [true, true, true, true, true, true, true, true, true, true, true, true, true, true, true, true, true, true, true, true, false, false, false, false, false]) (i := 20) (is := [21]) (by kernel_rfl) ?_) | (refine RA.step (L := [true, true, true, true, true, true, true, true, true, true, true, true, true, true, true, true, true, true, true, true, false, true, false, false, false]) (i := 20) (is := []) (by kernel_rfl) ?_) | (refine RA.step (L := [true, true, true, true, true, true, true, true, true, true, true, true, true, true, true, true, true, true, true, true, true, true, false, false, false]) (i := 22) (is := []) (by kernel_rfl) ?_) | (refine RA.step (L := [true, true, true, true, true, true, true, true, true, true, true, true, true, true, true, true, true, true, true, true, true, true, true, false, false]) (i := 23) (is := []) (by kernel_rfl) ?_) | (refine RA.step (L := [true, true, true, true, true, true, true, true, true, true, true, true, true, true, true, true, true, true, true, true, true, true, true, true, false]) (i := 24) (is := []) (by kernel_rfl) ?_) | (refine RA.done (L := [true, true, true, true, true, true, true, true, true, true, true, true, true, true, true, true, true, true, true, true, true, true, true, true, true]) (by kernel_rfl) ?_) | (refine RA.step (L := [true, true, true, true, true, true, true, true, true, true, true, true, true, true, true, true, true, true, true, true, true, false, false, false, false]) (i := 21) (is := []) (by kernel_rfl) ?_) | (refine RA.step (L := [true, true, true, true, false, false, false, false, false, false, false, false, false, false, false, false, false, false, false, false, false, false, false, false, false]) (i := 4) (is := []) (by kernel_rfl) ?_) | (refine W.condA (ht := fun hb => ?_) (hf := fun hb => ?_) <;> (try simp at hb) <;> (try (exfalso; omega))))
  all_goals first
    | exact Fin.ret ResL.auto
    | trace_state
end
end Go.Proofs.Ytgpcmgjdkefdjaa
end
section
set_option linter.unusedVariables false
set_option linter.unusedSimpArgs false
set_option maxHeartbeats 8000000
set_option linter.unusedSectionVars false
namespace Go.Proofs.Ytgpcmgjdkefdjaa
open Lf Go
attribute [local irreducible] PureOp EffOp Ev RG W Then InBlock Lf.Fin nth App InitE Pick SubE EvL EvD EvP EvR ResL Lf.Lex SubR SubBR RA RAll EvC FinO FinM ResM ResD FinS val pw digs trimL
section
def vs (L : List Fq) (d : Int) : List Fl → Rat
  | [] => 0
  | f :: l => term L d f + vs L d l
theorem vs_app (L : List Fq) (d : Int) (l m : List Fl) : vs L d (l ++ m) = vs L d l + vs L d m := by
  induction l with
  | nil => rw [List.nil_append, vs]; grind
  | cons f l ih => rw [List.cons_append, vs, vs, ih]; grind
theorem vs_one (L : List Fq) (d : Int) (f : Fl) : vs L d [f] = term L d f := by
  rw [vs, vs]; grind
theorem vsum_take {L : List Fq} {d : Int} {l : List Fl} : ∀ k, k ≤ l.length → vsum L d l k = vs L d (l.take k)
  | 0, _ => rfl
  | k + 1, hk => by rw [vsum, vsum_take k (by omega), take_nth (by omega), vs_app, vs_one]
theorem vsum_all (L : List Fq) (d : Int) (l : List Fl) : vsum L d l l.length = vs L d l := by
  rw [vsum_take _ (Nat.le_refl _), List.take_length]
theorem term_neg (L : List Fq) (d : Int) (f : Fl) : term L d (negF f) = -term L d f := by
  unfold term
  rw [show yrI d (negF f) = yrI d f from rfl, show (negF f).amt = -f.amt from rfl, Rat.intCast_neg, Rat.neg_mul]
theorem vs_neg (L : List Fq) (d : Int) (l : List Fl) : vs L d (l.map negF) = -vs L d l := by
  induction l with
  | nil => rw [List.map_nil, vs]; grind
  | cons f l ih => rw [List.map_cons, vs, vs, ih, term_neg]; grind
/-- the value of the payments of so many first years -/
def vy (L : List Fq) (d : Int) : List Fl → Int → Rat
  | [], _ => 0
  | f :: l, m => (if yrI d f < m then term L d f else 0) + vy L d l m
theorem vy_next {L : List Fq} {d : Int} {l : List Fl} (m : Nat) : vy L d l ((m : Int) + 1) = vy L d l m + ((Dsum d l m : Int) : Rat) * (nth L m).val := by
  induction l with
  | nil => simp only [vy, Dsum]; grind
  | cons f l ih =>
    rw [vy, vy, Dsum, ih, Rat.intCast_add]
    by_cases h1 : yrI d f < m
    · rw [if_pos (by omega), if_pos h1, if_neg (by omega)]
      have : ((0 : Int) : Rat) = 0 := rfl
      rw [this]
      grind
    · by_cases h2 : yrI d f = m
      · rw [if_pos (by omega), if_neg h1, if_pos h2]
        have e : term L d f = (f.amt : Rat) * (nth L m).val := by
          unfold term
          rw [h2, show ((m : Int)).toNat = m by omega]
        rw [e]
        grind
      · rw [if_neg (by omega), if_neg h1, if_neg h2]
        have : ((0 : Int) : Rat) = 0 := rfl
        rw [this]
        grind
theorem vy_zero {L : List Fq} {d : Int} {l : List Fl} (h : ∀ f ∈ l, 0 ≤ yrI d f) : vy L d l 0 = 0 := by
  induction l with
  | nil => rfl
  | cons f l ih =>
    have := h f (List.mem_cons_self ..)
    rw [vy, if_neg (by omega), ih (fun g hg => h g (List.mem_cons_of_mem _ hg))]
    grind
theorem vy_all {L : List Fq} {d : Int} {l : List Fl} {m : Int} (h : ∀ f ∈ l, yrI d f < m) : vy L d l m = vs L d l := by
  induction l with
  | nil => rfl
  | cons f l ih => rw [vy, vs, if_pos (h f (List.mem_cons_self ..)), ih (fun g hg => h g (List.mem_cons_of_mem _ hg))]
theorem prv_pos {L : List Fq} (hF : FOk L) {m : Nat} (hm : m ≤ L.length) : 0 < prv L m := by
  unfold prv
  split
  · grind
  · exact (hF.1 (m - 1) (by omega)).2.1
theorem abel {L : List Fq} (hF : FOk L) {d : Int} {S : List Fl} (h0 : ∀ f ∈ S, 0 ≤ yrI d f) (hu0 : Uof d S 0 = 0) (hU : ∀ n : Nat, 0 ≤ Uof d S n) : ∀ m : Nat, m ≤ L.length → ((Uof d S m : Int) : Rat) * prv L m ≤ vy L d S m
  | 0, _ => by
    show ((Uof d S 0 : Int) : Rat) * prv L 0 ≤ vy L d S 0
    rw [hu0, vy_zero h0]
    have : ((0 : Int) : Rat) = 0 := rfl
    rw [this]
    grind
  | m + 1, hm => by
    have ih := abel hF h0 hu0 hU m (by omega)
    have e := vy_next (L := L) (d := d) (l := S) m
    have c := hF.1 m (by omega)
    have u := Uof_next d S (m : Int)
    rw [show (((m + 1 : Nat)) : Int) = (m : Int) + 1 by omega, e, u, prv_succ, Rat.intCast_add]
    have p : 0 ≤ ((Uof d S m : Int) : Rat) * (prv L m - (nth L m).val) := Rat.mul_nonneg (Rat.intCast_nonneg.2 (hU m)) (by have := c.2.2; grind)
    grind
theorem yr_nn {d : Int} {f : Fl} (h : d ≤ f.day) : 0 ≤ yrI d f := by unfold yrI; omega
theorem dear_vs {a b : List Fl} {d : Int} {L : List Fq} (hD : Dear a b d) (va : VIn a d L) (vb : VIn b d L) : vs L d b ≤ vs L d a := by
  have hdiff : ∀ n : Int, Uof d (signed a b) n = Uof d a n - Uof d b n := fun n => by
    unfold signed
    rw [Uof_app, Uof_neg]; omega
  have hy : ∀ f ∈ signed a b, 0 ≤ yrI d f ∧ yrI d f < L.length := fun f hf => by
    unfold signed at hf
    rcases List.mem_append.1 hf with h | h
    · exact ⟨yr_nn (va.early f h), va.late f h⟩
    · obtain ⟨g, hg, rfl⟩ := List.mem_map.1 h
      exact ⟨yr_nn (vb.early g hg), vb.late g hg⟩
  have hu0 : Uof d (signed a b) 0 = 0 := by rw [hdiff, Uof_zero va.early (by omega), Uof_zero vb.early (by omega)]; rfl
  have hU : ∀ n : Nat, 0 ≤ Uof d (signed a b) n := fun n => by have := hD.2.2 n; rw [hdiff]; omega
  have ab := abel va.fk (fun f hf => (hy f hf).1) hu0 hU L.length (Nat.le_refl _)
  rw [vy_all (fun f hf => (hy f hf).2)] at ab
  have p : 0 ≤ ((Uof d (signed a b) L.length : Int) : Rat) * prv L L.length := Rat.mul_nonneg (Rat.intCast_nonneg.2 (hU L.length)) (by have := prv_pos va.fk (Nat.le_refl L.length); grind)
  have e : vs L d (signed a b) = vs L d a - vs L d b := by
    unfold signed
    rw [vs_app, vs_neg]; grind
  grind
theorem eps_pos : 0 < eps ∧ eps ≤ 1 ∧ 1000000000000000000 * eps = 1 := by decide +kernel
def witF (n : Int) : List Fq := (wit n 12).map fqOf
theorem wit_mem {n : Int} {r : Rat} (h : r ∈ wit n 12) : r = 1 ∨ r = eps := by
  unfold wit at h
  obtain ⟨i, _, rfl⟩ := List.mem_map.1 h
  by_cases q : (i : Int) < n
  · rw [if_pos q]; exact .inl rfl
  · rw [if_neg q]; exact .inr rfl
theorem eps_bd : bd eps 4 := by
  have e := pw4
  exact bd_div (n := 4) (x := 1) (y := 1000000000000000000) (by omega) (by omega) (by omega)
theorem wit_bd {n : Int} : ∀ r ∈ wit n 12, bd r 6 := fun r hr => by
  rcases wit_mem hr with rfl | rfl
  · exact bd_mono (int_bd (n := 1) (by omega)) (by omega)
  · exact bd_mono eps_bd (by omega)
theorem witF_len (n : Int) : (witF n).length = 12 := by unfold witF; rw [List.length_map, wit_len]
theorem wit_ok {n : Int} : ∀ r ∈ wit n 12, okF r := fun r hr => bd_ok (wit_bd r hr) (by omega)
theorem wit_val {n : Int} {k : Nat} (hk : k < 12) : (nth (witF n) k).val = if (k : Int) < n then (1 : Rat) else eps := by
  unfold witF
  have hk' : k < (wit n 12).length := by rw [wit_len]; exact hk
  rw [nth_fq hk', fqOf_val (wit_ok _ (nth_mem hk')), wit_nth hk]
theorem wit_FOk {n : Int} (hn : 1 ≤ n) : FOk (witF n) := by
  refine FOk_of wit_ok (by rw [wit_len]; omega) fun k hk => ?_
  rw [wit_len] at hk
  obtain ⟨e1, e2, _⟩ := eps_pos
  rw [wit_nth hk]
  by_cases h0 : k = 0
  · subst h0
    rw [if_pos (by omega), if_pos rfl]
    grind
  · rw [if_neg h0, wit_nth (by omega)]
    by_cases q : (k : Int) < n
    · rw [if_pos q, if_pos (by omega)]
      grind
    · rw [if_neg q]
      by_cases q2 : ((k - 1 : Nat) : Int) < n
      · rw [if_pos q2]; grind
      · rw [if_neg q2]; grind
structure Near (l : List Fl) (d : Int) : Prop where
  fl : flowsB l d = true
  rng : ∀ f ∈ l, d ≤ f.day ∧ f.day < d + 4380
theorem Near.yr {l : List Fl} {d : Int} (h : Near l d) {f : Fl} (hf : f ∈ l) : 0 ≤ yrI d f ∧ yrI d f < 12 := by
  have := h.rng f hf
  unfold yrI; omega
theorem Near.lin {l : List Fl} {d : Int} (h : Near l d) : LIn l d := ⟨h.fl, fun f hf => (h.rng f hf).1⟩
theorem Near.vin {l : List Fl} {d : Int} (h : Near l d) {n : Int} (hn : 1 ≤ n) : VIn l d (witF n) :=
  ⟨h.fl, wit_FOk hn, fewF_of wit_bd, fun f hf => (h.rng f hf).1, fun f hf => by rw [witF_len]; exact (h.yr hf).2⟩
theorem wit_vs {l : List Fl} {d n : Int} (h : ∀ f ∈ l, 0 ≤ yrI d f ∧ yrI d f < 12) : vs (witF n) d l = ((Uof d l n : Int) : Rat) + ((Uof d l 12 - Uof d l n : Int) : Rat) * eps := by
  induction l with
  | nil =>
    simp only [vs, Uof]
    rw [show ((0 - 0 : Int)) = 0 from rfl, show ((0 : Int) : Rat) = 0 from rfl]
    grind
  | cons f l ih =>
    have hf := h f (List.mem_cons_self ..)
    rw [vs, Uof, Uof, ih (fun g hg => h g (List.mem_cons_of_mem _ hg)), if_pos hf.2, term, wit_val (by omega), show (((yrI d f).toNat : Nat) : Int) = yrI d f by omega]
    simp only [Rat.intCast_add, Rat.intCast_sub]
    by_cases q : yrI d f < n
    · rw [if_pos q, if_pos q]; grind
    · rw [if_neg q, if_neg q]
      have : ((0 : Int) : Rat) = 0 := rfl
      rw [this]
      grind
theorem Near.adds {l : List Fl} {d : Int} (h : Near l d) (hl : l.length ≤ 20) {n : Int} (hn : 1 ≤ n) : addsOk (witF n) d l := by
  intro j hj
  have t := ((h.vin hn).term_bd hj).2.1
  have hm : ∀ f ∈ l.take j, f ∈ l := fun f hf => List.mem_of_mem_take hf
  have r := fun m => Uof_rng (d := d) (l := l.take j) (fun f hf => (flowsB_yes h.fl).2 f (hm f hf)) m
  have r1 := r n
  have r2 := r 12
  have lt : ((l.take j).length : Int) ≤ 20 := by simp; omega
  have b1 := int_bd (n := Uof d (l.take j) n) (by omega)
  have b2 := int_bd (n := Uof d (l.take j) 12 - Uof d (l.take j) n) (by omega)
  have b3 := (mul_bd (k := 8) (by omega) b2 eps_bd (by omega)).1
  have b4 := (add_bd (k := 12) (by omega) b1 b3 (by omega)).1
  rw [← wit_vs (fun f hf => h.yr (hm f hf)), ← vsum_take j (by omega)] at b4
  exact (add_bd (k := 23) (by omega) b4 t (by omega)).2
theorem wit_lt {a b : List Fl} {d : Int} (ha : Near a d) (hb : Near b d) (la : a.length ≤ 20) (lb : b.length ≤ 20) {n : Int} (h : Uof d a n < Uof d b n) : vs (witF n) d a < vs (witF n) d b := by
  rw [wit_vs (fun f hf => ha.yr hf), wit_vs (fun f hf => hb.yr hf)]
  obtain ⟨e1, _, e3⟩ := eps_pos
  have a1 := Uof_rng (d := d) (l := a) (fun f hf => (flowsB_yes ha.fl).2 f hf) n
  have a2 := Uof_rng (d := d) (l := a) (fun f hf => (flowsB_yes ha.fl).2 f hf) 12
  have b1 := Uof_rng (d := d) (l := b) (fun f hf => (flowsB_yes hb.fl).2 f hf) n
  have b2 := Uof_rng (d := d) (l := b) (fun f hf => (flowsB_yes hb.fl).2 f hf) 12
  have k1 : Uof d a n + 1 ≤ Uof d b n := by omega
  have k2 : (Uof d a 12 - Uof d a n) - (Uof d b 12 - Uof d b n) ≤ 100000000000000000 := by omega
  generalize Uof d a 12 - Uof d a n = X at *
  generalize Uof d b 12 - Uof d b n = Y at *
  generalize Uof d a n = U at *
  generalize Uof d b n = V at *
  have k1' : ((U + 1 : Int) : Rat) ≤ (V : Rat) := Rat.intCast_le_intCast.2 k1
  have k2' : ((X - Y : Int) : Rat) ≤ ((100000000000000000 : Int) : Rat) := Rat.intCast_le_intCast.2 k2
  rw [Rat.intCast_add] at k1'
  rw [Rat.intCast_sub] at k2'
  have c1 : ((1 : Int) : Rat) = 1 := rfl
  have c2 : ((100000000000000000 : Int) : Rat) = 100000000000000000 := rfl
  rw [c1] at k1'
  rw [c2] at k2'
  have p : 0 ≤ (100000000000000000 - ((X : Rat) - (Y : Rat))) * eps := Rat.mul_nonneg (by grind) (by grind)
  grind
theorem mostY_le' {l : List Fl} {d : Int} (h : ∀ f ∈ l, yrI d f ≤ 11) : mostY d l ≤ 11 := by
  induction l with
  | nil => simp [mostY]
  | cons f l ih =>
    have := ih fun g hg => h g (List.mem_cons_of_mem _ hg)
    have := h f (List.mem_cons_self ..)
    rw [mostY]; omega
theorem not_dear {a b : List Fl} {d : Int} (ha : Near a d) (hb : Near b d) (h : ¬ Dear a b d) : ∃ n : Nat, (1 ≤ n ∧ n ≤ 12) ∧ Uof d a n < Uof d b n := by
  rw [dear_iff ha.lin hb.lin] at h
  obtain ⟨n, hn⟩ := Classical.not_forall.1 h
  obtain ⟨h1, h2⟩ := Classical.not_imp.1 hn
  have m1 : mostY d a ≤ 11 := mostY_le' (fun f hf => by have := (ha.yr hf).2; omega)
  have m2 : mostY d b ≤ 11 := mostY_le' (fun f hf => by have := (hb.yr hf).2; omega)
  exact ⟨n + 1, by omega, by rw [show (((n + 1 : Nat)) : Int) = (n : Int) + 1 by omega]; omega⟩
end
end Go.Proofs.Ytgpcmgjdkefdjaa
end
section
set_option linter.unusedVariables false
set_option linter.unusedSimpArgs false
set_option maxHeartbeats 8000000
set_option linter.unusedSectionVars false
namespace Go.Proofs.Ytgpcmgjdkefdjaa
open Lf Go
attribute [local irreducible] PureOp EffOp Ev RG W Then InBlock Lf.Fin nth App InitE Pick SubE EvL EvD EvP EvR ResL Lf.Lex SubR SubBR RA RAll EvC FinO FinM ResM ResD FinS val pw digs trimL
section
theorem qcmp_any (s t s' t' : Int) (l m l' m' : List Int) (hl : l.length ≤ 1000000) (hl' : l'.length ≤ 1000000) (hm : m.length ≤ 1000000) (hm' : m'.length ≤ 1000000) : ∃ c, ACalls Try.prog 21 [fB s l s' l', fB t m t' m'] (.pv (cI c)) := by
  by_cases h : rightFB s l s' l' = true ∧ rightFB t m t' m' = true
  · obtain ⟨r, o, rfl, rfl, rfl, rfl⟩ := frac_of h.1
    obtain ⟨q, p, rfl, rfl, rfl, rfl⟩ := frac_of h.2
    exact ⟨_, qcmp_ok r q o p⟩
  · exact ⟨0, qcmp_arg s s' t t' l l' m m' (by omega) (by omega) (by omega) (by omega) h⟩
open Classical in
theorem law_dearer (a b : List Fl) (d : Int) (L : List Fq) (hla : a.length ≤ 9223372036854775807) (hlb : b.length ≤ 9223372036854775807) (hL : L.length ≤ 9223372036854775807) (hq : ∀ q ∈ L, FqOk q) :
    ACalls Try.prog 4 [slW a, slW b, cI d, slF L] (.pv (cB true)) := by
  have h0 := small_ok
  have f1 := few_ok a L hla hL (decide ((a.length ≤ 20 ∧ L.length ≤ 12) ∧ fewF L)) (by simp)
  have f2 := few_ok b [] hlb (by decide) (decide (b.length ≤ 20)) (by simp [fewF])
  have f3 := flows_ok a d hla
  have f4 := flows_ok b d hlb
  have f5 := pfac_ok L hL hq (decide (FOk L)) (by simp)
  by_cases h : (((((a.length ≤ 20 ∧ L.length ≤ 12) ∧ fewF L) ∧ b.length ≤ 20) ∧ flowsB a d = true) ∧ flowsB b d = true) ∧ FOk L
  case neg =>
    have hbad : (((decide ((a.length ≤ 20 ∧ L.length ≤ 12) ∧ fewF L) = true ∧ decide (b.length ≤ 20) = true) ∧ flowsB a d = true) ∧ flowsB b d = true) ∧ decide (FOk L) = true → False := fun q => h ⟨⟨⟨⟨of_decide_eq_true q.1.1.1.1, of_decide_eq_true q.1.1.1.2⟩, q.1.1.2⟩, q.1.2⟩, of_decide_eq_true q.2⟩
    generalize decide ((a.length ≤ 20 ∧ L.length ≤ 12) ∧ fewF L) = b1 at *
    generalize decide (b.length ≤ 20) = b2 at *
    generalize flowsB a d = b3 at *
    generalize flowsB b d = b4 at *
    generalize decide (FOk L) = b5 at *
    refine ACalls.of_W (qs := [cB true]) [8] 145 Try.func4 (by kernel_rfl) rfl rfl rfl fun G => ?_
    refine W.initA (hw := ?_)
    repeat' (first | ((first | apply U_ | (apply Ug_; exact rfl; exact rfl) | (apply Ugq_; exact rfl; exact rfl)); (first | exact QX.B TYok | exact QX.Len TYok | exact QX.Idx TYok | exact QX.Ext TYok | exact QCd (h0) | exact QCd (f1) | exact QCd (f2) | exact QCd (f3) | exact QCd (f4) | exact QCd (f5)); exact rfl) | refine SX.Alloc TYok (h := ?_) | refine SX.Store TYok (h := ?_) | refine SX.Lit TYok (h := ?_) | refine SX.App TYok (h := ?_) | refine SC ?_ | (apply S_isnil TYok; exact rfl; exact rfl; exact rfl; exact Ev.auto; intro bn hnil) | refine SG ?_ | (refine W.condA (ht := fun hb => ?_) (hf := fun hb => ?_) <;> (try simp at hb) <;> (try (exfalso; first | exact hbad hb | omega))))
    all_goals first
      | exact Fin.ret ResL.auto
      | trace_state
  obtain ⟨⟨⟨⟨h1, h2⟩, h3⟩, h4⟩, h5⟩ := h
  rw [decide_eq_true h1] at f1
  rw [decide_eq_true h2] at f2
  rw [h3] at f3
  rw [h4] at f4
  rw [decide_eq_true h5] at f5
  have ra := flowsB_yes h3
  have rb := flowsB_yes h4
  have hdd := ra.1.1
  have h11 := h1.1.1
  have lC : (a ++ b).length = a.length + b.length := List.length_append
  have rC : ∀ f ∈ a ++ b, (0 ≤ f.day ∧ f.day ≤ 200000) ∧ (-1000000000000000 ≤ f.amt ∧ f.amt ≤ 1000000000000000) := fun f hf => by
    rcases List.mem_append.1 hf with h | h
    · exact ra.2 f h
    · exact rb.2 f h
  have hr : ([] : List (List Cell)) ++ a.map encW ++ b.map encW = (a ++ b).map encW := by rw [List.map_append]; rfl
  refine ACalls.of_W (qs := [cB true]) [8] 145 Try.func4 (by kernel_rfl) rfl rfl rfl fun G => ?_
  refine W.initA (hw := ?_)
  repeat' (first | (refine W.purgeR [(5, [0, 1, 2, 3, 9, 10])] rfl (by repeat (first | exact PN.nil | apply PN.po rfl | (apply PN.pa; exact rfl; (repeat (first | (apply NR.cons; exact rfl) | exact NR.nil rfl))) | apply PN.a rfl | apply PN.s rfl | apply PN.u rfl | apply PN.m rfl | apply PN.k rfl | apply PN.i rfl | apply PN.skip)) (by repeat (first | exact PB.nil | (apply PB.one; exact rfl; (focus (first | (dsimp only; done) | (dsimp only; exact rfl) | exact rfl)); (focus (first | (dsimp only; done) | (dsimp only; exact rfl) | exact rfl)); exact rfl; (repeat (first | (apply NR.cons; exact rfl) | exact NR.nil rfl)))  | (apply PB.rw; exact rfl; (focus (first | (dsimp only; done) | (dsimp only; exact rfl) | exact rfl)); (focus (first | (dsimp only; done) | (dsimp only; exact rfl) | exact rfl)); exact hr) | apply PB.cons rfl)) ?_) | ((first | apply U_ | (apply Ug_; exact rfl; exact rfl) | (apply Ugq_; exact rfl; exact rfl)); (first | exact QX.B TYok | exact QX.Len TYok | exact QX.Idx TYok | exact QX.Ext TYok | exact QCd (h0) | exact QCd (f1) | exact QCd (f2) | exact QCd (f3) | exact QCd (f4) | exact QCd (f5)); exact rfl) | refine SX.Alloc TYok (h := ?_) | refine SX.Store TYok (h := ?_) | refine SX.Lit TYok (h := ?_) | refine SX.App TYok (h := ?_) | (apply S_appendd TYok; exact Ev.auto; exact Ev.auto; exact rfl; exact rfl; exact rfl; exact rfl; exact rfl; exact rfl; exact rfl; exact rfl; (intro r hr; first | (obtain ⟨_, _, rfl⟩ := List.mem_map.1 hr; rfl) | (obtain rfl := List.mem_singleton.1 hr; rfl)); (constructor <;> simp <;> omega); exact rfl) | refine SC ?_ | (apply S_isnil TYok; exact rfl; exact rfl; exact rfl; exact Ev.auto; intro bn hnil) | refine SG ?_ | (refine W.condA (ht := fun hb => ?_) (hf := fun hb => ?_) <;> (try simp at hb) <;> (try (exfalso; omega))))
  refine W.weaken (Le.freeze1 (m := 54) rfl) ?_
  apply W.loopP (σ := Nat) 145 [0, 1, 2, 3, 9, 10] (fun k => k ≤ (a ++ b).length ∧ ∀ j, j < k → d ≤ (nth (a ++ b) j).day ∧ (nth (a ++ b) j).day < d + 4380) (fun k => [(11, vI k)]) (fun _ => []) (fun k => (a ++ b).length - k) (0)
  case hp => repeat (first | exact Pick.nil | apply Pick.cons rfl)
  case h0 =>
    refine ⟨⟨by omega, fun j hj => by omega⟩, ?_⟩
    exact Le.auto
  case round =>
    rintro k ⟨g1, g2⟩
    apply W.norm (by repeat (first | exact App.nil | apply App.cons))
    by_cases hk : k < (a ++ b).length
    · have fk := (rC _ (nth_mem hk)).1
      generalize a ++ b = C at *
      by_cases hw : d ≤ (nth C k).day ∧ (nth C k).day < d + 4380
      · repeat' (first | (exfalso; omega) | ((first | apply U_ | (apply Ug_; exact rfl; exact rfl) | (apply Ugq_; exact rfl; exact rfl)); (first | exact QX.B TYok | exact QX.Len TYok | exact QX.Idx TYok | exact QX.Ext TYok); exact rfl) | refine SX.Alloc TYok (h := ?_) | refine SX.Store TYok (h := ?_) | refine SX.Lit TYok (h := ?_) | refine SX.App TYok (h := ?_) | refine SC ?_ | (apply S_isnil TYok; exact rfl; exact rfl; exact rfl; exact Ev.auto; intro bn hnil) | refine SG ?_ | (refine W.condA (ht := fun hb => ?_) (hf := fun hb => ?_) <;> (try simp at hb) <;> (try (exfalso; omega))))
        all_goals first
          | (refine ⟨k + 1, ⟨by omega, fun j hj => ?_⟩, ?_, by omega⟩
             · rcases Nat.lt_or_ge j k with q | q
               · exact g2 j q
               · obtain rfl : j = k := by omega
                 exact hw
             · exact Le.auto)
          | (exfalso; omega)
          | trace_state
      · repeat' (first | (exfalso; omega) | ((first | apply U_ | (apply Ug_; exact rfl; exact rfl) | (apply Ugq_; exact rfl; exact rfl)); (first | exact QX.B TYok | exact QX.Len TYok | exact QX.Idx TYok | exact QX.Ext TYok); exact rfl) | refine SX.Alloc TYok (h := ?_) | refine SX.Store TYok (h := ?_) | refine SX.Lit TYok (h := ?_) | refine SX.App TYok (h := ?_) | refine SC ?_ | (apply S_isnil TYok; exact rfl; exact rfl; exact rfl; exact Ev.auto; intro bn hnil) | refine SG ?_ | (refine W.condA (ht := fun hb => ?_) (hf := fun hb => ?_) <;> (try simp at hb) <;> (try (exfalso; omega))))
        all_goals first
          | exact Fin.ret ResL.auto
          | (exfalso; omega)
          | trace_state
    obtain rfl : k = (a ++ b).length := by omega
    have na : Near a d := ⟨h3, fun f hf => by
      obtain ⟨i, hi, rfl⟩ := List.getElem_of_mem hf
      have := g2 i (by omega)
      rw [nth_eq (by omega), List.getElem_append_left hi] at this
      exact this⟩
    have nb : Near b d := ⟨h4, fun f hf => by
      obtain ⟨i, hi, rfl⟩ := List.getElem_of_mem hf
      have := g2 (a.length + i) (by omega)
      rw [nth_eq (by omega), List.getElem_append_right (by omega)] at this
      simpa using this⟩
    have dd := dearer_ok a b d hla hlb (decide (Dear a b d)) (by simp)
    have v1 := (value_both a d L hla hL hq h1.2).1
    have v2 := (value_both b d L hlb hL hq h1.2).1
    clear g1 g2 rC lC
    generalize a ++ b = C at *
    by_cases hd : Dear a b d
    · rw [decide_eq_true hd] at dd
      by_cases h0 : valE a d L = 0 ∧ valE b d L = 0
      · obtain ⟨i1, _, o1⟩ := valE_zero h1.2 h0.1
        obtain ⟨i2, _, o2⟩ := valE_zero h1.2 h0.2
        rw [show valV a d L = zF (vsum L d a a.length) from if_pos h0.1, h0.1] at v1
        rw [show valV b d L = zF (vsum L d b b.length) from if_pos h0.2, h0.2] at v2
        have c1 := qcmp_ok _ _ o1 o2
        have y : ¬ cmpR (vsum L d a a.length) (vsum L d b b.length) < 0 := fun q => by
          have := (cmpR_lt _ _).1 q
          have := dear_vs hd i1 i2
          rw [vsum_all, vsum_all] at *
          grind
        clear na nb hd h0 i1 i2 o1 o2
        generalize cmpR (vsum L d a a.length) (vsum L d b b.length) = CC at *
        generalize vsum L d a a.length = X at *
        generalize vsum L d b b.length = Y at *
        repeat' (first | (exfalso; omega) | ((first | apply U_ | (apply Ug_; exact rfl; exact rfl) | (apply Ugq_; exact rfl; exact rfl)); (first | exact QX.B TYok | exact QX.Len TYok | exact QX.Idx TYok | exact QX.Ext TYok | exact QCd (dd) | exact QCd (v1) | exact QCd (v2) | exact QCd (c1)); exact rfl) | refine SX.Alloc TYok (h := ?_) | refine SX.Store TYok (h := ?_) | refine SX.Lit TYok (h := ?_) | refine SX.App TYok (h := ?_) | refine SC ?_ | (apply S_isnil TYok; exact rfl; exact rfl; exact rfl; exact Ev.auto; intro bn hnil) | refine SG ?_ | (refine W.condA (ht := fun hb => ?_) (hf := fun hb => ?_) <;> (try simp at hb) <;> (try (exfalso; omega))))
        all_goals first
          | exact Fin.ret ResL.auto
          | (exfalso; omega)
          | trace_state
      · obtain ⟨s0, a0, s1, a1, eV, l0, l1⟩ := valV_form a d L h1.2
        obtain ⟨t0, b0, t1, b1, eW, l2, l3⟩ := valV_form b d L h1.2
        rw [eV] at v1
        rw [eW] at v2
        obtain ⟨cc, c1⟩ := qcmp_any s0 t0 s1 t1 a0 b0 a1 b1 l0 l1 l2 l3
        clear eV eW na nb
        have h0' : (valE a d L = 0 ∧ valE b d L = 0) ∧ cc < 0 → False := fun q => h0 q.1
        generalize valE a d L = E1 at *
        generalize valE b d L = E2 at *
        repeat' (first | (exfalso; omega) | ((first | apply U_ | (apply Ug_; exact rfl; exact rfl) | (apply Ugq_; exact rfl; exact rfl)); (first | exact QX.B TYok | exact QX.Len TYok | exact QX.Idx TYok | exact QX.Ext TYok | exact QCd (dd) | exact QCd (v1) | exact QCd (v2) | exact QCd (c1)); exact rfl) | refine SX.Alloc TYok (h := ?_) | refine SX.Store TYok (h := ?_) | refine SX.Lit TYok (h := ?_) | refine SX.App TYok (h := ?_) | refine SC ?_ | (apply S_isnil TYok; exact rfl; exact rfl; exact rfl; exact Ev.auto; intro bn hnil) | refine SG ?_ | (refine W.condA (ht := fun hb => ?_) (hf := fun hb => ?_) <;> (try simp at hb) <;> (try (exfalso; first | exact h0 hb | exact h0' hb | omega))))
        all_goals first
          | exact Fin.ret ResL.auto
          | (exfalso; omega)
          | trace_state
    · rw [decide_eq_false hd] at dd
      obtain ⟨n, ⟨n1, n2⟩, n3⟩ := not_dear na nb hd
      have wl := wit_lt na nb h11 h2 n3
      have hw := fun k : Nat => witness_ok (k : Int)
      have hE : ∀ k : Nat, 1 ≤ k → (ACalls Try.prog 10 [slW a, cI d, slQ (wit k 12)] (.tup [zF (vs (witF k) d a), cI 0]) ∧ ACalls Try.prog 10 [slW b, cI d, slQ (wit k 12)] (.tup [zF (vs (witF k) d b), cI 0])) ∧ ACalls Try.prog 21 [zF (vs (witF k) d a), zF (vs (witF k) d b)] (.pv (cI (cmpR (vs (witF k) d a) (vs (witF k) d b)))) := fun k hk => by
        have fw : fewF (witF k) := fewF_of wit_bd
        have lw : (witF k).length ≤ 9223372036854775807 := by rw [witF_len]; omega
        have w1 := (value_both a d (witF k) hla lw (few_FqOk fw) fw).1
        have w2 := (value_both b d (witF k) hlb lw (few_FqOk fw) fw).1
        have z1 := valE_ok (na.vin (n := k) (by omega)) (na.adds h11 (by omega))
        have z2 := valE_ok (nb.vin (n := k) (by omega)) (nb.adds h2 (by omega))
        have o1 := (valE_zero fw z1).2.2
        have o2 := (valE_zero fw z2).2.2
        rw [show valV a d (witF k) = zF (vsum (witF k) d a a.length) from if_pos z1, z1, vsum_all, show slF (witF k) = slQ (wit k 12) from by rw [slF, witF, slF_of]] at w1
        rw [show valV b d (witF k) = zF (vsum (witF k) d b b.length) from if_pos z2, z2, vsum_all, show slF (witF k) = slQ (wit k 12) from by rw [slF, witF, slF_of]] at w2
        rw [vsum_all] at o1 o2
        exact ⟨⟨w1, w2⟩, qcmp_ok _ _ o1 o2⟩
      obtain ⟨s0, a0, s1, a1, eV, l0, l1⟩ := valV_form a d L h1.2
      obtain ⟨t0, b0, t1, b1, eW, l2, l3⟩ := valV_form b d L h1.2
      rw [eV] at v1
      rw [eW] at v2
      obtain ⟨cc, c1⟩ := qcmp_any s0 t0 s1 t1 a0 b0 a1 b1 l0 l1 l2 l3
      clear eV eW na nb
      generalize valE a d L = E1 at *
      generalize valE b d L = E2 at *
      repeat' (first | ((first | apply U_ | (apply Ug_; exact rfl; exact rfl) | (apply Ugq_; exact rfl; exact rfl)); (first | exact QX.B TYok | exact QX.Len TYok | exact QX.Idx TYok | exact QX.Ext TYok | exact QCd (dd) | exact QCd (v1) | exact QCd (v2) | exact QCd (c1)); exact rfl) | refine SX.Alloc TYok (h := ?_) | refine SX.Store TYok (h := ?_) | refine SX.Lit TYok (h := ?_) | refine SX.App TYok (h := ?_) | refine SC ?_ | (apply S_isnil TYok; exact rfl; exact rfl; exact rfl; exact Ev.auto; intro bn hnil) | refine SG ?_ | (refine W.condA (ht := fun hb => ?_) (hf := fun hb => ?_) <;> (try simp at hb) <;> (try (exfalso; omega))))
      all_goals (
        apply W.loopP (σ := Nat) 145 [0, 1, 2, 9] (fun k => 1 ≤ k ∧ k ≤ n) (fun k => [(17, vI k)]) (fun _ => []) (fun k => n - k) (1)
        case hp => repeat (first | exact Pick.nil | apply Pick.cons rfl)
        case h0 =>
          refine ⟨⟨by omega, by omega⟩, ?_⟩
          exact Le.auto
        case round =>
          rintro k ⟨k1, k2⟩
          apply W.norm (by repeat (first | exact App.nil | apply App.cons))
          obtain ⟨⟨w1, w2⟩, c2⟩ := hE k k1
          have w0 := hw k
          have y : ¬ cmpR (vs (witF k) d a) (vs (witF k) d b) < 0 → k < n := fun q => by
            rcases Nat.lt_or_ge k n with w | w
            · exact w
            · obtain rfl : k = n := by omega
              exact absurd ((cmpR_lt _ _).2 wl) q
          generalize cmpR (vs (witF k) d a) (vs (witF k) d b) = CC at *
          generalize vs (witF k) d a = X at *
          generalize vs (witF k) d b = Y at *
          generalize wit k 12 = WW at *
          repeat' (first | ((first | apply U_ | (apply Ug_; exact rfl; exact rfl) | (apply Ugq_; exact rfl; exact rfl)); (first | exact QX.B TYok | exact QX.Len TYok | exact QX.Idx TYok | exact QX.Ext TYok | exact QCd (w0) | exact QCd (w1) | exact QCd (w2) | exact QCd (c2)); exact rfl) | refine SX.Alloc TYok (h := ?_) | refine SX.Store TYok (h := ?_) | refine SX.Lit TYok (h := ?_) | refine SX.App TYok (h := ?_) | refine SC ?_ | (apply S_isnil TYok; exact rfl; exact rfl; exact rfl; exact Ev.auto; intro bn hnil) | refine SG ?_ | (refine W.condA (ht := fun hb => ?_) (hf := fun hb => ?_) <;> (try simp at hb) <;> (try (exfalso; omega))))
          all_goals first
            | exact Fin.ret ResL.auto
            | (refine ⟨k + 1, ⟨by omega, by have := y (by omega); omega⟩, ?_, by have := y (by omega); omega⟩; exact Le.auto)
            | (exfalso; omega)
            | trace_state)
end
end Go.Proofs.Ytgpcmgjdkefdjaa
end
section
namespace Go.Proofs.Ytgpcmgjdkefdjaa
open Lf Go
theorem int_of1 {n : Nat} {cs : List Cell} (h : TyL TY (n + 1) 3 cs) : ∃ i : Int, cs = Lf.encI i ∧ True := by
  obtain ⟨i, rfl, _⟩ : ∃ i, cs = [.int .i64 i] ∧ (Lit.int .i64 i).wf = true := h
  exact ⟨i, rfl, trivial⟩
structure BV where
  s : Int
  l : List Int
abbrev encBV (b : BV) : List Cell := [.int .i64 b.s, .sl (b.l.map Lf.encI)]
theorem big_of {n : Nat} {cs : List Cell} (h : TyL TY (n + 3) 29 cs) : ∃ b : BV, cs = encBV b ∧ b.l.length ≤ 9223372036854775807 := by
  obtain ⟨a1, b1, rfl, t1, a2, b2, rfl, t2, rfl⟩ : ∃ a1 b1, cs = a1 ++ b1 ∧ TyL TY (n + 2) 3 a1 ∧ ∃ a2 b2, b1 = a2 ++ b2 ∧ TyL TY (n + 2) 27 a2 ∧ b2 = [] := h
  obtain ⟨s, rfl, _⟩ : ∃ i, a1 = [.int .i64 i] ∧ (Lit.int .i64 i).wf = true := t1
  obtain ⟨rows, rfl, hl, h3⟩ : ∃ rows, a2 = [Cell.sl rows] ∧ rows.length ≤ maxLen ∧ ∀ r ∈ rows, TyL TY (n + 1) 3 r := t2
  obtain ⟨l, rfl, _⟩ := rows_map (f := Lf.encI) (p := fun _ => True) fun r hr => int_of1 (h3 r hr)
  exact ⟨⟨s, l⟩, rfl, by simp only [List.length_map] at hl; unfold maxLen at hl; exact hl⟩
theorem fq_of {n : Nat} {cs : List Cell} (h : TyL TY (n + 4) 31 cs) : ∃ f : Fq, cs = encF f ∧ FqOk f := by
  obtain ⟨a1, b1, rfl, t1, a2, b2, rfl, t2, rfl⟩ : ∃ a1 b1, cs = a1 ++ b1 ∧ TyL TY (n + 3) 29 a1 ∧ ∃ a2 b2, b1 = a2 ++ b2 ∧ TyL TY (n + 3) 29 a2 ∧ b2 = [] := h
  obtain ⟨x, rfl, hx⟩ := big_of t1
  obtain ⟨y, rfl, hy⟩ := big_of t2
  exact ⟨⟨x.s, x.l, y.s, y.l⟩, rfl, hx, hy⟩
theorem fqs_inq {c : Cell} (h : TyL TY 5 23 [c]) : ∃ l : List Fq, c = .sl (l.map encF) ∧ l.length ≤ 9223372036854775807 ∧ ∀ q ∈ l, FqOk q := by
  obtain ⟨rows, h1, hl, h3⟩ : ∃ rows, [c] = [Cell.sl rows] ∧ rows.length ≤ maxLen ∧ ∀ r ∈ rows, TyL TY 4 31 r := h
  obtain rfl := (List.cons.inj h1).1
  obtain ⟨l, rfl, hq⟩ := rows_map (f := encF) (p := fun f => FqOk f) fun r hr => fq_of (n := 0) (h3 r hr)
  exact ⟨l, rfl, by simp only [List.length_map] at hl; unfold maxLen at hl; exact hl, hq⟩
theorem flow_of {n : Nat} {cs : List Cell} (h : TyL TY (n + 2) 44 cs) : ∃ f : Fl, cs = encW f ∧ True := by
  obtain ⟨a1, b1, rfl, t1, a2, b2, rfl, t2, rfl⟩ : ∃ a1 b1, cs = a1 ++ b1 ∧ TyL TY (n + 1) 3 a1 ∧ ∃ a2 b2, b1 = a2 ++ b2 ∧ TyL TY (n + 1) 3 a2 ∧ b2 = [] := h
  obtain ⟨i1, rfl, _⟩ : ∃ i, a1 = [.int .i64 i] ∧ (Lit.int .i64 i).wf = true := t1
  obtain ⟨i2, rfl, _⟩ : ∃ i, a2 = [.int .i64 i] ∧ (Lit.int .i64 i).wf = true := t2
  exact ⟨⟨i1, i2⟩, rfl, trivial⟩
theorem flows_in {c : Cell} (h : TyL TY 4 22 [c]) : ∃ l : List Fl, c = .sl (l.map encW) ∧ l.length ≤ 9223372036854775807 := by
  obtain ⟨rows, h1, hl, h3⟩ : ∃ rows, [c] = [Cell.sl rows] ∧ rows.length ≤ maxLen ∧ ∀ r ∈ rows, TyL TY 3 44 r := h
  obtain rfl := (List.cons.inj h1).1
  obtain ⟨l, rfl, _⟩ := rows_map (f := encW) (p := fun _ => True) fun r hr => flow_of (n := 1) (h3 r hr)
  exact ⟨l, rfl, by simp only [List.length_map] at hl; unfold maxLen at hl; exact hl⟩
end Go.Proofs.Ytgpcmgjdkefdjaa
end
section
namespace Go.Proofs.Ytgpcmgjdkefdjaa
open Lf Go Go.ChangeShapes Go.WideShapes Go.ChangeAt Go.RowKit
namespace DearerRow
theorem own : ownKnob Try.prog.godebug = none := by kernel_rfl
theorem laidOut : laidOutB Try.prog = true := by kernel_rfl
set_option maxRecDepth 100000 in
theorem lifted (os : Os) (started : os.Started) (H : Type) (enc : TypeId × Value → H) :
    ReturnsInHanded {} Try.checked os 4 .any (Rows.priceDearerSpec.pre6 enc Try.prog Try.f4 Rows.priceDearerRow.domain false) (Rows.priceDearerSpec.post enc Try.prog Try.f4 false true false false) := by
  refine returnsInHanded_of_change (C := Try.checked) own started (by kernel_rfl) Try.func4
    (ChangeSpec.witness6 (enc := enc) (C := Try.checked) false ⟨#[], #[.slice none 0 0, .slice none 0 0, .int .i64 0, .slice none 0 0], []⟩ 8 (by kernel_rfl) (by kernel_rfl) (by kernel_rfl) (by kernel_rfl)) ?_
  intro W base args ds gs before hval0 hW hcnd _
  have hval : ∀ (j : Nat) t v, Try.f4.params[j]? = some t → args[j]? = some v → Value.okWide Try.prog W .any base t v := hval0
  have hW' := hW
  obtain ⟨p, q, hA0, hV, rfl, hfz, hnd⟩ := hW
  have hA : DataW.TrodAll enc Try.prog W 0 (fun _ => true) true Try.f4.params.toList args.toList ds p := hA0
  rw [Try.params4] at hA hval
  obtain ⟨v0, vs0, d0, ds0, p0, q0, hargs, rfl, rfl, h0, r0⟩ := trodAll_cons hA
  obtain ⟨v1, vs1, d1, ds1, p1, q1, rfl, rfl, rfl, h1, r1⟩ := trodAll_cons r0
  obtain ⟨v2, vs2, d2, ds2, p2, q2, rfl, rfl, rfl, h2, r2⟩ := trodAll_cons r1
  obtain ⟨v3, vs3, d3, ds3, p3, q3, rfl, rfl, rfl, h3, r3⟩ := trodAll_cons r2
  obtain ⟨rfl, rfl, rfl⟩ := trodAll_nil r3
  obtain rfl : args = #[v0, v1, v2, v3] := by cases args; simp_all
  obtain ⟨rfl, rfl⟩ := trodVars_none hV
  have k0 := h0
  have lt0 : ∀ x ∈ p0, x.block < W.heap.size := by obtain ⟨m, hm⟩ := k0; exact DataW.trod_lt m _ _ _ hm
  obtain ⟨c0, rel0, ty0⟩ := read_slice TYok 4 Try.underlying22 (by kernel_rfl) (hval 0 22 v0 rfl rfl) h0
  obtain ⟨a0, rfl, w0⟩ := flows_in ty0
  have k1 := h1
  have lt1 : ∀ x ∈ p1, x.block < W.heap.size := by obtain ⟨m, hm⟩ := k1; exact DataW.trod_lt m _ _ _ hm
  obtain ⟨c1, rel1, ty1⟩ := read_slice TYok 4 Try.underlying22 (by kernel_rfl) (hval 1 22 v1 rfl rfl) h1
  obtain ⟨a1, rfl, w1⟩ := flows_in ty1
  obtain ⟨a2, rfl, rfl, rfl, w2⟩ := open_int Try.underlying3 (hval 2 3 v2 rfl rfl) h2
  have k3 := h3
  have lt3 : ∀ x ∈ p3, x.block < W.heap.size := by obtain ⟨m, hm⟩ := k3; exact DataW.trod_lt m _ _ _ hm
  obtain ⟨c3, rel3, ty3⟩ := read_slice TYok 5 Try.underlying23 (by kernel_rfl) (hval 3 23 v3 rfl rfl) h3
  obtain ⟨a3, rfl, w3⟩ := fqs_inq ty3
  clear hA0 hval0
  have hc := (law_dearer a0 a1 a2 a3 w0 w1 w3.1 w3.2).calls (allΦ W) W #[v0, v1, .int .i64 a2, v3] (fits_all W)
    (ArgsRel.of (ArgsL.cons rel0 (ArgsL.cons rel1 (ArgsL.cons (Rel.int _ _) (ArgsL.cons rel3 ArgsL.nil)))))
  refine hc.mono fun e W' ⟨v, Φ', he, hv, _, _, _, bel⟩ => ?_
  subst he
  obtain rfl : v = .bool true := AVRel.bool hv
  exact ⟨_, rfl, _, _, _, [], _, [], hW', trodAll_mk1 (shut_bool Try.underlying4 _), (trodAll_cons_mk (Below.trod laidOut (by kernel_rfl) (of_decide_eq_true (by kernel_rfl)) k0 bel lt0) (trodAll_cons_mk (Below.trod laidOut (by kernel_rfl) (of_decide_eq_true (by kernel_rfl)) k1 bel lt1) (trodAll_cons_mk (shut_int Try.underlying3 w2) (trodAll_cons_mk (Below.trod laidOut (by kernel_rfl) (of_decide_eq_true (by kernel_rfl)) k3 bel lt3) trodAll_mk0)))), rfl, bel.frame _, fun h => by cases h⟩
theorem over : Rows.priceDearerRow.holds Try.pinned (OpenSpec.ofChange Rows.priceDearerSpec) :=
  OpenClaim.holds_of_wide 4 Try.f4 rfl rfl rfl rfl rfl rfl rfl ⟨rfl, rfl, rfl, rfl, rfl⟩ rfl rfl rfl rfl rfl (by kernel_rfl) Try.func4 (by kernel_rfl)
    (of_decide_eq_true (by kernel_rfl)) (by unfold Func.isWrapper; first | (rw [if_pos (by decide +kernel)]; kernel_rfl) | (rw [if_neg (by decide +kernel)]; exact ⟨rfl, rfl⟩))
    (fun os started H enc _ => lifted os started H enc)
end DearerRow
theorem priceDearer_proved : Rows.PriceDearerSaid := DearerRow.over
end Go.Proofs.Ytgpcmgjdkefdjaa
end
