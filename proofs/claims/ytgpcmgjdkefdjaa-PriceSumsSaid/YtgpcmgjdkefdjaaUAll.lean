/-
  PriceSums: the row: what came in is read, the contract of the function gives true, and what came in stands.
-/
import Derived.Test.YtgpcmgjdkefdjaaUS11
import Derived.Test.YtgpcmgjdkefdjaaUS03
import Derived.Test.YtgpcmgjdkefdjaaUS05
import Derived.Test.YtgpcmgjdkefdjaaUS08
section
set_option linter.unusedVariables false
set_option linter.unusedSimpArgs false
set_option maxHeartbeats 8000000
set_option linter.unusedSectionVars false
namespace Go.Proofs.Ytgpcmgjdkefdjaa
open Lf Go
attribute [local irreducible] PureOp EffOp Ev RG W Then InBlock Lf.Fin nth App InitE Pick SubE EvL EvD EvP EvR ResL Lf.Lex SubR SubBR RA RAll EvC FinO FinM ResM ResD FinS val pw digs trimL
section
def cellI (n : Int) : List Cell := [.int .i64 n]
theorem KI : KeyK Try.prog 3 kI := KeyK.int (by kernel_rfl)
def mg (M : List (Int × Int)) (y : Int) : Int := (mget M y).getD 0
theorem mg_mput (M : List (Int × Int)) (k v y : Int) : mg (mput M k v) y = if k = y then v else mg M y := by
  unfold mg
  induction M with
  | nil =>
    rw [mput, mget, mget]
    split <;> rfl
  | cons p r ih =>
    obtain ⟨x, z⟩ := p
    rw [mput]
    by_cases h : x = k
    · subst h
      rw [if_pos rfl, mget, mget]
      split <;> rfl
    · rw [if_neg h, mget, mget]
      by_cases h2 : x = y
      · subst h2
        rw [if_pos rfl, if_pos rfl, if_neg (fun e => h e.symm)]
      · rw [if_neg h2, if_neg h2]
        exact ih
/-- the sum of the amounts of one year -/
def Dsum (d : Int) : List Fl → Int → Int
  | [], _ => 0
  | f :: l, y => (if yrI d f = y then f.amt else 0) + Dsum d l y
theorem Dsum_snoc (d : Int) (l : List Fl) (f : Fl) (y : Int) : Dsum d (l ++ [f]) y = Dsum d l y + (if yrI d f = y then f.amt else 0) := by
  induction l with
  | nil => simp [Dsum]
  | cons g l ih => rw [List.cons_append, Dsum, Dsum, ih]; omega
theorem Uof_next (d : Int) (l : List Fl) (y : Int) : Uof d l (y + 1) = Uof d l y + Dsum d l y := by
  induction l with
  | nil => rfl
  | cons f l ih =>
    rw [Uof, Uof, Dsum, ih]
    by_cases h1 : yrI d f < y
    · rw [if_pos (by omega), if_pos h1, if_neg (by omega)]; omega
    · by_cases h2 : yrI d f = y
      · rw [if_pos (by omega), if_neg h1, if_pos h2]; omega
      · rw [if_neg (by omega), if_neg h1, if_neg h2]; omega
theorem Dsum_rng {d : Int} {l : List Fl} (h : ∀ f ∈ l, -1000000000000000 ≤ f.amt ∧ f.amt ≤ 1000000000000000) (y : Int) : -(1000000000000000 * (l.length : Int)) ≤ Dsum d l y ∧ Dsum d l y ≤ 1000000000000000 * (l.length : Int) := by
  induction l with
  | nil => simp [Dsum]
  | cons f l ih =>
    have := ih fun g hg => h g (List.mem_cons_of_mem _ hg)
    have := h f (List.mem_cons_self ..)
    rw [Dsum, List.length_cons, show ((l.length + 1 : Nat) : Int) = l.length + 1 by omega, Int.mul_add, Int.mul_one]
    split <;> omega
theorem Uof_rng' {d : Int} {l : List Fl} (h : ∀ f ∈ l, -1000000000000000 ≤ f.amt ∧ f.amt ≤ 1000000000000000) (y : Int) : -(1000000000000000 * (l.length : Int)) ≤ Uof d l y ∧ Uof d l y ≤ 1000000000000000 * (l.length : Int) := by
  induction l with
  | nil => simp [Uof]
  | cons f l ih =>
    have := ih fun g hg => h g (List.mem_cons_of_mem _ hg)
    have := h f (List.mem_cons_self ..)
    rw [Uof, List.length_cons, show ((l.length + 1 : Nat) : Int) = l.length + 1 by omega, Int.mul_add, Int.mul_one]
    split <;> omega
def negF (f : Fl) : Fl := ⟨f.day, -f.amt⟩
theorem Uof_neg (d : Int) (l : List Fl) (n : Int) : Uof d (l.map negF) n = -Uof d l n := by
  induction l with
  | nil => rfl
  | cons f l ih =>
    rw [List.map_cons, Uof, Uof, ih, show yrI d (negF f) = yrI d f from rfl, show (negF f).amt = -f.amt from rfl]
    split <;> omega
theorem Uof_app (d : Int) (l m : List Fl) (n : Int) : Uof d (l ++ m) n = Uof d l n + Uof d m n := by
  induction l with
  | nil => simp [Uof]
  | cons f l ih => rw [List.cons_append, Uof, Uof, ih]; omega
theorem mostY_app (d : Int) (l m : List Fl) : mostY d (l ++ m) = max (mostY d l) (mostY d m) := by
  induction l with
  | nil => have := mostY_nn d m; simp only [List.nil_append, mostY]; omega
  | cons f l ih => rw [List.cons_append, mostY, mostY, ih]; omega
def signed (a b : List Fl) : List Fl := a ++ b.map negF
theorem signed_len (a b : List Fl) : (signed a b).length = (a ++ b).length := by simp [signed]
theorem signed_at {a b : List Fl} {k : Nat} (hk : k < (a ++ b).length) : (nth (signed a b) k).day = (nth (a ++ b) k).day ∧ (nth (signed a b) k).amt = if k < a.length then (nth (a ++ b) k).amt else -(nth (a ++ b) k).amt := by
  rw [nth_eq (by rw [signed_len]; exact hk), nth_eq hk]
  unfold signed
  by_cases h : k < a.length
  · rw [List.getElem_append_left h, List.getElem_append_left h, if_pos h]
    exact ⟨rfl, rfl⟩
  · rw [List.getElem_append_right (by omega), List.getElem_append_right (by omega), if_neg h, List.getElem_map]
    exact ⟨rfl, rfl⟩
theorem dearer_ok (a b : List Fl) (d : Int) (hla : a.length ≤ 9223372036854775807) (hlb : b.length ≤ 9223372036854775807) (bb : Bool) (hbb : bb = true ↔ Dear a b d) : ACalls Try.prog 18 [slW a, slW b, cI d] (.pv (cB bb)) := by
  have p1 := pright_ok a d hla
  have p2 := pright_ok b d hlb
  by_cases h1 : flowsB a d = true ∧ flowsB b d = true
  case neg =>
    have e : bb = false := by
      rw [Bool.eq_false_iff]
      exact fun q => h1 ⟨(hbb.1 q).1.fl, (hbb.1 q).2.1.fl⟩
    subst e
    generalize flowsB a d = x at *
    generalize flowsB b d = y at *
    refine ACalls.of_W (qs := [cB false]) [6] 76 Try.func18 (by kernel_rfl) rfl rfl rfl fun G => ?_
    refine W.initA (hw := ?_)
    repeat' (first | ((first | apply U_ | (apply Ug_; exact rfl; exact rfl) | (apply Ugq_; exact rfl; exact rfl)); (first | exact QX.B TYok | exact QX.Num TYok | exact QX.Len TYok | exact QX.Idx TYok | exact QCd (p1) | exact QCd (p2)); exact rfl) | refine SX.Alloc TYok (h := ?_) | refine SX.Store TYok (h := ?_) | refine SX.Lit TYok (h := ?_) | refine SC ?_ | refine SG ?_ | (refine W.condA (ht := fun hb => ?_) (hf := fun hb => ?_) <;> (try simp at hb) <;> (try (exfalso; first | exact h1 hb | omega))))
    all_goals first
      | exact Fin.ret ResL.auto
      | trace_state
  rw [h1.1] at p1
  rw [h1.2] at p2
  have ra := flowsB_yes h1.1
  have rb := flowsB_yes h1.2
  have hdd := ra.1.1
  have cc := concat_ok [a, b] (by simp) (fun x hx => by
    rcases List.mem_cons.1 hx with rfl | hx
    · omega
    · rcases List.mem_cons.1 hx with rfl | hx
      · omega
      · cases hx)
  rw [show ([a, b] : List (List Fl)).flatten = a ++ b by simp] at cc
  have rC : ∀ f ∈ a ++ b, (0 ≤ f.day ∧ f.day ≤ 200000) ∧ (-1000000000000000 ≤ f.amt ∧ f.amt ≤ 1000000000000000) := fun f hf => by
    rcases List.mem_append.1 hf with h | h
    · exact ra.2 f h
    · exact rb.2 f h
  have lC : (a ++ b).length = a.length + b.length := List.length_append
  have rE : ∀ f ∈ signed a b, -1000000000000000 ≤ f.amt ∧ f.amt ≤ 1000000000000000 := fun f hf => by
    unfold signed at hf
    rcases List.mem_append.1 hf with h | h
    · exact (ra.2 f h).2
    · obtain ⟨g, hg, rfl⟩ := List.mem_map.1 h
      have := (rb.2 g hg).2
      show -1000000000000000 ≤ -g.amt ∧ -g.amt ≤ 1000000000000000
      omega
  have hsg := fun k (hk : k < (a ++ b).length) => signed_at hk
  have lE := signed_len a b
  refine ACalls.of_W (qs := [cB bb]) [6] 76 Try.func18 (by kernel_rfl) rfl rfl rfl fun G => ?_
  refine W.initA (hw := ?_)
  repeat' (first | ((first | apply U_ | (apply Ug_; exact rfl; exact rfl) | (apply Ugq_; exact rfl; exact rfl)); (first | (apply Q_litD TYok; (repeat (first | exact EvR.nil | apply EvR.cons Ev.auto)); exact rfl; exact rfl; exact rfl; exact rfl; exact rfl; exact rfl) | exact QX.B TYok | exact QX.Num TYok | exact QX.Len TYok | exact QX.Idx TYok | exact QCd (p1) | exact QCd (p2) | exact QCd (cc)); exact rfl) | refine SX.Alloc TYok (h := ?_) | refine SX.Store TYok (h := ?_) | refine SX.Lit TYok (h := ?_) | (apply S_makeMap TYok 0; exact rfl; exact rfl) | refine SC ?_ | refine SG ?_ | (refine W.condA (ht := fun hb => ?_) (hf := fun hb => ?_) <;> (try simp at hb) <;> (try (exfalso; omega))))
  apply W.loopP (σ := (Nat × List (Int × Int))) 76 [0, 2, 7, 28, 29] (fun z => z.1 ≤ (a ++ b).length ∧ (∀ j, j < z.1 → d ≤ (nth (a ++ b) j).day) ∧ ∀ y, mg z.2 y = Dsum d ((signed a b).take z.1) y) (fun z => [(30, vI z.1), (8, vI (mostY d ((a ++ b).take z.1)))]) (fun z => [(24, ⟨mapTag, 0, z.2.map (mrow kI cellI)⟩)]) (fun z => (a ++ b).length - z.1) ((0, []))
  case hp => repeat (first | exact Pick.nil | apply Pick.cons rfl)
  case h0 =>
    refine ⟨⟨by simp, fun j hj => by omega, fun y => rfl⟩, ?_⟩
    exact Le.auto
  case round =>
    rintro ⟨k, M⟩ ⟨g1, g2, g3⟩
    apply W.norm (by repeat (first | exact App.nil | apply App.cons))
    dsimp only
    simp only at g1 g2 g3
    by_cases hk : k < (a ++ b).length
    · have hm := nth_mem hk
      have f1 := rC _ hm
      obtain ⟨s1, s2⟩ := hsg k hk
      by_cases hd : (nth (a ++ b) k).day < d
      · have e : bb = false := by
          rw [Bool.eq_false_iff]
          intro q
          rcases List.mem_append.1 hm with h | h
          · have := (hbb.1 q).1.early _ h; omega
          · have := (hbb.1 q).2.1.early _ h; omega
        subst e
        generalize a ++ b = C at *
        repeat' (first | ((first | apply U_ | (apply Ug_; exact rfl; exact rfl) | (apply Ugq_; exact rfl; exact rfl)); (first | exact QX.B TYok | exact QX.Num TYok | exact QX.Len TYok | exact QX.Idx TYok); exact rfl) | refine SX.Alloc TYok (h := ?_) | refine SX.Store TYok (h := ?_) | refine SX.Lit TYok (h := ?_) | refine SC ?_ | refine SG ?_ | (refine W.condA (ht := fun hb => ?_) (hf := fun hb => ?_) <;> (try simp at hb) <;> (try (exfalso; omega))))
        all_goals first
          | exact Fin.ret ResL.auto
          | (exfalso; omega)
          | trace_state
      · have e2 := mostY_snoc d ((a ++ b).take k) (nth (a ++ b) k)
        rw [← take_nth hk] at e2
        have hy0 : 0 ≤ yrI d (nth (a ++ b) k) := by unfold yrI; omega
        have eyI : yrI d (nth (a ++ b) k) = ((nth (a ++ b) k).day - d) / 365 := rfl
        have eyE : yrI d (nth (signed a b) k) = yrI d (nth (a ++ b) k) := by unfold yrI; rw [s1]
        have dr := Dsum_rng (d := d) (l := (signed a b).take k) (fun f hf => rE f (List.mem_of_mem_take hf)) (yrI d (nth (a ++ b) k))
        have lt : (((signed a b).take k).length : Int) ≤ 800 := by simp; omega
        have f2 := f1.2
        have mg0 := g3 (yrI d (nth (a ++ b) k))
        have hst : ∀ v, v = mg M (yrI d (nth (a ++ b) k)) + (nth (signed a b) k).amt → (∀ y, mg (mput M (yrI d (nth (a ++ b) k)) v) y = Dsum d ((signed a b).take (k + 1)) y) := fun v hv y => by
          rw [mg_mput, take_nth (by rw [lE]; exact hk), Dsum_snoc, eyE, g3 y]
          by_cases e : yrI d (nth (a ++ b) k) = y
          · rw [if_pos e, if_pos e, hv, e, g3 y]
          · rw [if_neg e, if_neg e]; omega
        have hday : ∀ j, j < k + 1 → d ≤ (nth (a ++ b) j).day := fun j hj => by
          rcases Nat.lt_or_ge j k with q | q
          · exact g2 j q
          · obtain rfl : j = k := by omega
            omega
        rw [s2] at hst
        rw [← mg0] at dr
        generalize hC : a ++ b = C at *
        generalize mostY d (C.take k) = Y0 at *
        by_cases hka : k < a.length
        · rw [if_pos hka] at hst
          rw [eyI] at hst e2 hy0 dr
          repeat' (first | ((first | apply U_ | (apply Ug_; exact rfl; exact rfl) | (apply Ugq_; exact rfl; exact rfl)); (first | (apply Q_lookup TYok KI (vc := cellI) (M := M) (k := ((nth C k).day - d) / 365) (r := .one (.int .i64 (mg M (((nth C k).day - d) / 365)))); exact Ev.auto; exact rfl; exact Ev.auto; exact rfl; exact rfl; exact rfl; (unfold mg; cases mget M _ <;> rfl)) | exact QX.B TYok | exact QX.Num TYok | exact QX.Len TYok | exact QX.Idx TYok); exact rfl) | refine SX.Alloc TYok (h := ?_) | refine SX.Store TYok (h := ?_) | refine SX.Lit TYok (h := ?_) | (apply S_mapUpdate TYok KI (vc := cellI); exact Ev.auto; exact rfl; exact Ev.auto; exact Ev.auto; exact rfl; exact rfl; exact rfl) | refine SC ?_ | refine SG ?_ | (refine W.condA (ht := fun hb => ?_) (hf := fun hb => ?_) <;> (try simp at hb) <;> (try (exfalso; omega))))
          all_goals first
            | (refine ⟨(k + 1, _), ⟨by simp only; omega, hday, hst _ rfl⟩, ?_, by simp only; omega⟩; (try dsimp only); rw [e2]; exact Le.auto)
            | (exfalso; omega)
            | trace_state
        · rw [if_neg hka] at hst
          rw [eyI] at hst e2 hy0 dr
          have hst2 : ∀ v, v = mg M (((nth C k).day - d) / 365) - (nth C k).amt → (∀ y, mg (mput M (((nth C k).day - d) / 365) v) y = Dsum d ((signed a b).take (k + 1)) y) := fun v hv => hst v (by omega)
          repeat' (first | ((first | apply U_ | (apply Ug_; exact rfl; exact rfl) | (apply Ugq_; exact rfl; exact rfl)); (first | (apply Q_lookup TYok KI (vc := cellI) (M := M) (k := ((nth C k).day - d) / 365) (r := .one (.int .i64 (mg M (((nth C k).day - d) / 365)))); exact Ev.auto; exact rfl; exact Ev.auto; exact rfl; exact rfl; exact rfl; (unfold mg; cases mget M _ <;> rfl)) | exact QX.B TYok | exact QX.Num TYok | exact QX.Len TYok | exact QX.Idx TYok); exact rfl) | refine SX.Alloc TYok (h := ?_) | refine SX.Store TYok (h := ?_) | refine SX.Lit TYok (h := ?_) | (apply S_mapUpdate TYok KI (vc := cellI); exact Ev.auto; exact rfl; exact Ev.auto; exact Ev.auto; exact rfl; exact rfl; exact rfl) | refine SC ?_ | refine SG ?_ | (refine W.condA (ht := fun hb => ?_) (hf := fun hb => ?_) <;> (try simp at hb) <;> (try (exfalso; omega))))
          all_goals first
            | (refine ⟨(k + 1, _), ⟨by simp only; omega, hday, hst2 _ rfl⟩, ?_, by simp only; omega⟩; (try dsimp only); rw [e2]; exact Le.auto)
            | (exfalso; omega)
            | trace_state
    obtain rfl : k = (a ++ b).length := by omega
    have ia : LIn a d := ⟨h1.1, fun f hf => by
      obtain ⟨i, hi, rfl⟩ := List.getElem_of_mem hf
      have := g2 i (by omega)
      rw [nth_eq (by omega), List.getElem_append_left hi] at this
      exact this⟩
    have ib : LIn b d := ⟨h1.2, fun f hf => by
      obtain ⟨i, hi, rfl⟩ := List.getElem_of_mem hf
      have := g2 (a.length + i) (by omega)
      rw [nth_eq (by omega), List.getElem_append_right (by omega)] at this
      simpa using this⟩
    rw [dear_iff ia ib, ← mostY_app] at hbb
    rw [List.take_length]
    have g3' : ∀ y, mg M y = Dsum d (signed a b) y := fun y => by rw [g3 y, ← lE, List.take_length]
    have hdiff : ∀ n : Int, Uof d (signed a b) n = Uof d a n - Uof d b n := fun n => by
      unfold signed
      rw [Uof_app, Uof_neg]; omega
    have ur := Uof_rng' (d := d) rE
    have dr := Dsum_rng (d := d) rE
    have nx := Uof_next d (signed a b)
    have u0 : Uof d (signed a b) 0 = 0 := by
      rw [hdiff, Uof_zero ia.early (by omega), Uof_zero ib.early (by omega)]; rfl
    have m0 := mostY_nn d (a ++ b)
    have m1 := mostY_le (d := d) (l := a ++ b) (fun f hf => by
      rcases List.mem_append.1 hf with h | h
      · exact (ia.yr h).2
      · exact (ib.yr h).2)
    have lE2 : ((signed a b).length : Int) ≤ 800 := by rw [lE]; omega
    clear g1 g2 g3 hsg cc
    generalize signed a b = E at *
    generalize mostY d (a ++ b) = Y0 at *
    repeat' (first | ((first | apply U_ | (apply Ug_; exact rfl; exact rfl) | (apply Ugq_; exact rfl; exact rfl)); (first | exact QX.B TYok | exact QX.Num TYok | exact QX.Len TYok | exact QX.Idx TYok); exact rfl) | refine SX.Alloc TYok (h := ?_) | refine SX.Store TYok (h := ?_) | refine SX.Lit TYok (h := ?_) | refine SC ?_ | refine SG ?_ | (refine W.condA (ht := fun hb => ?_) (hf := fun hb => ?_) <;> (try simp at hb) <;> (try (exfalso; omega))))
    apply W.loopP (σ := Nat) 76 [7, 8] (fun k => ((k : Int) ≤ Y0 + 1) ∧ ∀ j : Nat, j < k → 0 ≤ Uof d E (j + 1)) (fun k => [(13, vI k), (12, vI (Uof d E k))]) (fun _ => [(24, ⟨mapTag, 0, M.map (mrow kI cellI)⟩)]) (fun k => (Y0 + 1).toNat - k) (0)
    case hp => repeat (first | exact Pick.nil | apply Pick.cons rfl)
    case h0 =>
      refine ⟨⟨by omega, fun j hj => by omega⟩, ?_⟩
      rw [show Uof d E ((0 : Nat) : Int) = 0 from u0]
      exact Le.auto
    case round =>
      rintro k ⟨gk, gq⟩
      apply W.norm (by repeat (first | exact App.nil | apply App.cons))
      by_cases hk : (k : Int) ≤ Y0
      · have n1 := nx (k : Int)
        rw [← g3' (k : Int)] at n1
        have r1 := ur (k : Int)
        have r2 := dr (k : Int)
        rw [← g3' (k : Int)] at r2
        have hd2 := hdiff ((k : Int) + 1)
        by_cases hlt : Uof d E ((k : Int) + 1) < 0
        · have e : bb = false := by
            rw [Bool.eq_false_iff]
            intro q
            have := hbb.1 q k hk
            omega
          subst e
          generalize Uof d E ((k : Int) + 1) = X1 at *
          generalize Uof d E (k : Int) = X at *
          repeat' (first | ((first | apply U_ | (apply Ug_; exact rfl; exact rfl) | (apply Ugq_; exact rfl; exact rfl)); (first | (apply Q_lookup TYok KI (vc := cellI) (M := M) (k := (k : Int)) (r := .one (.int .i64 (mg M (k : Int)))); exact Ev.auto; exact rfl; exact Ev.auto; exact rfl; exact rfl; exact rfl; (unfold mg; cases mget M _ <;> rfl)) | exact QX.B TYok | exact QX.Num TYok | exact QX.Len TYok | exact QX.Idx TYok); exact rfl) | refine SX.Alloc TYok (h := ?_) | refine SX.Store TYok (h := ?_) | refine SX.Lit TYok (h := ?_) | refine SC ?_ | refine SG ?_ | (refine W.condA (ht := fun hb => ?_) (hf := fun hb => ?_) <;> (try simp at hb) <;> (try (exfalso; omega))))
          all_goals first
            | exact Fin.ret ResL.auto
            | (exfalso; omega)
            | trace_state
        · have gq' : ∀ j : Nat, j < k + 1 → 0 ≤ Uof d E (j + 1) := fun j hj => by
            rcases Nat.lt_or_ge j k with q | q
            · exact gq j q
            · obtain rfl : j = k := by omega
              omega
          generalize hX1 : Uof d E ((k : Int) + 1) = X1 at *
          generalize Uof d E (k : Int) = X at *
          repeat' (first | ((first | apply U_ | (apply Ug_; exact rfl; exact rfl) | (apply Ugq_; exact rfl; exact rfl)); (first | (apply Q_lookup TYok KI (vc := cellI) (M := M) (k := (k : Int)) (r := .one (.int .i64 (mg M (k : Int)))); exact Ev.auto; exact rfl; exact Ev.auto; exact rfl; exact rfl; exact rfl; (unfold mg; cases mget M _ <;> rfl)) | exact QX.B TYok | exact QX.Num TYok | exact QX.Len TYok | exact QX.Idx TYok); exact rfl) | refine SX.Alloc TYok (h := ?_) | refine SX.Store TYok (h := ?_) | refine SX.Lit TYok (h := ?_) | refine SC ?_ | refine SG ?_ | (refine W.condA (ht := fun hb => ?_) (hf := fun hb => ?_) <;> (try simp at hb) <;> (try (exfalso; omega))))
          all_goals first
            | (refine ⟨k + 1, ⟨by omega, gq'⟩, ?_, by omega⟩; (try dsimp only); rw [show (((k + 1 : Nat)) : Int) = (k : Int) + 1 by omega, hX1, n1]; exact Le.auto)
            | (exfalso; omega)
            | trace_state
      · obtain rfl : bb = true := hbb.2 fun n hn => by
          have := gq n (by omega)
          have := hdiff ((n : Int) + 1)
          omega
        repeat' (first | ((first | apply U_ | (apply Ug_; exact rfl; exact rfl) | (apply Ugq_; exact rfl; exact rfl)); (first | exact QX.B TYok | exact QX.Num TYok | exact QX.Len TYok | exact QX.Idx TYok); exact rfl) | refine SX.Alloc TYok (h := ?_) | refine SX.Store TYok (h := ?_) | refine SX.Lit TYok (h := ?_) | refine SC ?_ | refine SG ?_ | (refine W.condA (ht := fun hb => ?_) (hf := fun hb => ?_) <;> (try simp at hb) <;> (try (exfalso; omega))))
        all_goals first
          | exact Fin.ret ResL.auto
          | (exfalso; omega)
          | trace_state
end
end Go.Proofs.Ytgpcmgjdkefdjaa
end
section
set_option linter.unusedVariables false
set_option linter.unusedSimpArgs false
set_option maxHeartbeats 8000000
set_option linter.unusedSectionVars false
namespace Go.Proofs.Ytgpcmgjdkefdjaa
open Lf Go
attribute [local irreducible] PureOp EffOp Ev RG W Then InBlock Lf.Fin nth App InitE Pick SubE EvL EvD EvP EvR ResL Lf.Lex SubR SubBR RA RAll EvC FinO FinM ResM ResD FinS val pw digs trimL
section
theorem fqOf_right {r : Rat} (h : okF r) : (fqOf r).right = true := by
  have hp := den_pos r
  unfold Fq.right fqOf rightFB
  have c := sgn_cases r.den
  rw [num_right h.1, num_right h.2, decide_eq_true (show sgn r.den = 1 by omega), val_mag, val_mag, sgn_mag, show mag r.den = r.den by omega, num_den_gcd]; rfl
theorem nth_fq {R : List Rat} {k : Nat} (hk : k < R.length) : nth (R.map fqOf) k = fqOf (nth R k) := by
  rw [nth_eq (by simpa using hk), List.getElem_map, nth_eq hk]
theorem FOk_of {R : List Rat} (ok : ∀ r ∈ R, okF r) (hl : 1 ≤ R.length ∧ R.length ≤ 60) (h : ∀ k, k < R.length → 0 < nth R k ∧ nth R k ≤ if k = 0 then 1 else nth R (k - 1)) : FOk (R.map fqOf) := by
  refine ⟨fun k hk => ?_, by simpa using hl⟩
  have hk' : k < R.length := by simpa using hk
  have o := ok _ (nth_mem hk')
  obtain ⟨h1, h2⟩ := h k hk'
  unfold chk
  rw [nth_fq hk', fqOf_val o]
  refine ⟨fqOf_right o, h1, ?_⟩
  unfold prv
  by_cases e : k = 0
  · rw [if_pos e] at h2 ⊢
    exact h2
  · rw [if_neg e] at h2 ⊢
    rw [nth_fq (by omega), fqOf_val (ok _ (nth_mem (by omega)))]
    exact h2
theorem fewF_of {R : List Rat} (h : ∀ r ∈ R, bd r 6) : fewF (R.map fqOf) := fun q hq => by
  obtain ⟨r, hr, rfl⟩ := List.mem_map.1 hq
  obtain ⟨h1, h2⟩ := h r hr
  have a := sgn_cases r.num
  have b := sgn_cases r.den
  exact ⟨(digs_len (mag_nn _)).2 (by omega), (digs_len (mag_nn _)).2 (by omega)⟩
theorem few_FqOk {L : List Fq} (h : fewF L) : ∀ q ∈ L, FqOk q := fun q hq => by
  have := h q hq
  unfold FqOk
  omega
theorem addsOk_few {l : List Fl} {d : Int} {L : List Fq} (hv : VIn l d L) (h : l.length ≤ 4) : addsOk L d l := by
  have key : ∀ k, k ≤ l.length → bd (vsum L d l k) (4 + 11 * k) := by
    intro k
    induction k with
    | zero => exact fun _ => int_bd (n := 0) (by omega)
    | succ k ih =>
      intro hk
      have b := ih (by omega)
      have t := (hv.term_bd (k := k) (by omega)).2.1
      exact (add_bd (k := 4 + 11 * k + 10) (by omega) b t (by omega)).1
  intro j hj
  exact (add_bd (k := 4 + 11 * j + 10) (by omega) (key j (by omega)) (hv.term_bd hj).2.1 (by omega)).2
attribute [local irreducible] sgn mag gcdZ quoZ remZ fullZ fullE
theorem of_ok (n m : Int) (h : i64B n) (hm : i64B m) (h0 : m ≠ 0) : ACalls Try.prog 25 [cI n, cI m] (.pv (zF (Rat.divInt n m))) := by
  have n1 := qOf_ok n m h hm h0
  generalize Rat.divInt n m = r at *
  refine ACalls.of_M TYok (qs := [zF r]) [.cell 4 31] 8 Try.func25 (by kernel_rfl) rfl rfl rfl fun G => ?_
  refine W.initA (hw := ?_)
  repeat' (first | ((first | apply U_); (first | exact QX.B TYok | exact QCd (n1)); exact rfl) | refine SX.Alloc TYok (h := ?_) | refine SX.Store TYok (h := ?_) | refine SC ?_ | (refine W.condA (ht := fun hb => ?_) (hf := fun hb => ?_) <;> (try simp at hb) <;> (try (exfalso; omega))))
  all_goals exact FinM.ret ResM.auto
theorem ints_same (l : List Int) (hl : l.length ≤ 20) : ACalls Try.prog 15 [slI' l, slI' l] (.pv (cB true)) := by
  refine ACalls.of_W (qs := [cB true]) [4] 26 Try.func15 (by kernel_rfl) rfl rfl rfl fun G => ?_
  refine W.initA (hw := ?_)
  repeat' (first | (exfalso; omega) | ((first | apply U_ | apply Lex.u | (apply Lex.g; exact rfl; exact rfl) | (apply Lex.gq; exact rfl; exact rfl)); (first | exact QX.B TYok | exact QX.Len TYok | exact QX.Idx TYok); exact rfl) | refine SC ?_ | (apply W.draw2 (id := 6) [0, 0, 3, 7, 0, 0, 48, 112, 255] [[0], [5], [17, 18], [19], [1], [5], [21, 22], [23], [20, 24]] 9 [(17, 1), (18, 32), (19, 393216), (20, 524288), (21, 2), (22, 32), (23, 6291456), (24, 8388608), (25, 17825792)] mixed (by kernel_rfl) rfl rfl) | (refine W.condA (ht := fun hb => ?_) (hf := fun hb => ?_) <;> (try simp at hb) <;> (try (exfalso; omega))))
  apply W.loopP (σ := Nat) 26 [0, 1] (fun k => k ≤ l.length) (fun k => [(5, vI k)]) (fun _ => []) (fun k => l.length - k) (0)
  case hp => repeat (first | exact Pick.nil | apply Pick.cons rfl)
  case h0 =>
    refine ⟨by simp, ?_⟩
    exact Le.auto
  case round =>
    rintro k g1
    apply W.norm (by repeat (first | exact App.nil | apply App.cons))
    by_cases hk : k < l.length
    · repeat' (first | ((first | apply U_ | apply Lex.u | (apply Lex.g; exact rfl; exact rfl) | (apply Lex.gq; exact rfl; exact rfl)); (first | exact QX.B TYok | exact QX.Len TYok | exact QX.Idx TYok); exact rfl) | refine SC ?_ | (apply W.draw2 (id := 6) [0, 0, 3, 7, 0, 0, 48, 112, 255] [[0], [5], [17, 18], [19], [1], [5], [21, 22], [23], [20, 24]] 9 [(17, 1), (18, 32), (19, 393216), (20, 524288), (21, 2), (22, 32), (23, 6291456), (24, 8388608), (25, 17825792)] mixed (by kernel_rfl) rfl rfl) | (refine W.condA (ht := fun hb => ?_) (hf := fun hb => ?_) <;> (try simp at hb) <;> (try (exfalso; omega))))
      all_goals first
        | (refine ⟨k + 1, by omega, ?_, by omega⟩; exact Le.auto)
        | (exfalso; omega)
        | trace_state
    · obtain rfl : k = l.length := by omega
      repeat' (first | ((first | apply U_ | apply Lex.u | (apply Lex.g; exact rfl; exact rfl) | (apply Lex.gq; exact rfl; exact rfl)); (first | exact QX.B TYok | exact QX.Len TYok | exact QX.Idx TYok); exact rfl) | refine SC ?_ | (apply W.draw2 (id := 6) [0, 0, 3, 7, 0, 0, 48, 112, 255] [[0], [5], [17, 18], [19], [1], [5], [21, 22], [23], [20, 24]] 9 [(17, 1), (18, 32), (19, 393216), (20, 524288), (21, 2), (22, 32), (23, 6291456), (24, 8388608), (25, 17825792)] mixed (by kernel_rfl) rfl rfl) | (refine W.condA (ht := fun hb => ?_) (hf := fun hb => ?_) <;> (try simp at hb) <;> (try (exfalso; omega))))
      all_goals first
        | exact Fin.ret ResL.auto
        | trace_state
theorem few_ok (l : List Fl) (L : List Fq) (hl : l.length ≤ 9223372036854775807) (hL : L.length ≤ 9223372036854775807) (b : Bool) (hbb : b = true ↔ (l.length ≤ 20 ∧ L.length ≤ 12) ∧ fewF L) : ACalls Try.prog 9 [slW l, slF L] (.pv (cB b)) := by
  refine ACalls.of_W (qs := [cB b]) [4] 42 Try.func9 (by kernel_rfl) rfl rfl rfl fun G => ?_
  refine W.initA (hw := ?_)
  repeat' (first | ((first | apply U_ | (apply Ug_; exact rfl; exact rfl) | (apply Ugq_; exact rfl; exact rfl)); (first | exact QX.B TYok | exact QX.Len TYok | exact QX.Idx TYok); exact rfl) | refine SC ?_ | refine SG ?_ | (refine W.condA (ht := fun hb => ?_) (hf := fun hb => ?_) <;> (try simp at hb) <;> (try (exfalso; omega))))
  apply W.loopP (σ := Nat) 42 [0, 1] (fun k => k ≤ L.length ∧ k ≤ 13 ∧ ∀ j, j < k → (nth L j).d.length ≤ 6 ∧ (nth L j).d'.length ≤ 6) (fun k => [(5, vI k)]) (fun _ => []) (fun k => L.length - k) (0)
  case hp => repeat (first | exact Pick.nil | apply Pick.cons rfl)
  case h0 =>
    refine ⟨⟨by omega, by omega, fun j hj => by omega⟩, ?_⟩
    exact Le.auto
  case round =>
    rintro k ⟨g1, g2, g3⟩
    apply W.norm (by repeat (first | exact App.nil | apply App.cons))
    by_cases hk : k < L.length ∧ k ≤ 12
    · by_cases hw : (nth L k).d.length ≤ 6 ∧ (nth L k).d'.length ≤ 6
      · repeat' (first | ((first | apply U_ | (apply Ug_; exact rfl; exact rfl) | (apply Ugq_; exact rfl; exact rfl)); (first | exact QX.B TYok | exact QX.Len TYok | exact QX.Idx TYok); exact rfl) | refine SC ?_ | refine SG ?_ | (refine W.condA (ht := fun hb => ?_) (hf := fun hb => ?_) <;> (try simp at hb) <;> (try (exfalso; omega))))
        all_goals first
          | (refine ⟨k + 1, ⟨by omega, by omega, fun j hj => ?_⟩, ?_, by omega⟩
             · rcases Nat.lt_or_ge j k with q | q
               · exact g3 j q
               · obtain rfl : j = k := by omega
                 exact hw
             · exact Le.auto)
          | (exfalso; omega)
          | trace_state
      · have e : b = false := by
          rw [Bool.eq_false_iff]
          exact fun q => hw ((hbb.1 q).2 _ (nth_mem hk.1))
        subst e
        repeat' (first | ((first | apply U_ | (apply Ug_; exact rfl; exact rfl) | (apply Ugq_; exact rfl; exact rfl)); (first | exact QX.B TYok | exact QX.Len TYok | exact QX.Idx TYok); exact rfl) | refine SC ?_ | refine SG ?_ | (refine W.condA (ht := fun hb => ?_) (hf := fun hb => ?_) <;> (try simp at hb) <;> (try (exfalso; omega))))
        all_goals first
          | exact Fin.ret ResL.auto
          | (exfalso; omega)
          | trace_state
    · have e : b = (decide ((l.length : Int) ≤ 20) && decide ((L.length : Int) ≤ 12)) := by
        rw [Bool.eq_iff_iff, hbb, Bool.and_eq_true, decide_eq_true_iff, decide_eq_true_iff]
        constructor
        · rintro ⟨⟨h1, h2⟩, _⟩; omega
        · rintro ⟨h1, h2⟩
          refine ⟨by omega, fun q hq => ?_⟩
          obtain ⟨i, hi, rfl⟩ := List.getElem_of_mem hq
          rw [← nth_eq hi]
          exact g3 i (by omega)
      subst e
      clear hbb
      repeat' (first | ((first | apply U_ | (apply Ug_; exact rfl; exact rfl) | (apply Ugq_; exact rfl; exact rfl)); (first | exact QX.B TYok | exact QX.Len TYok | exact QX.Idx TYok); exact rfl) | refine SC ?_ | refine SG ?_ | (refine W.condA (ht := fun hb => ?_) (hf := fun hb => ?_) <;> (try simp at hb) <;> (try (exfalso; omega))))
      all_goals first
        | exact Fin.ret ResL.auto
        | (exfalso; omega)
        | trace_state
/-- what Cost of both returns -/
theorem cost_both (l : List Fl) (d : Int) (S : List (List Fq)) (hl : l.length ≤ 9223372036854775807) (hS : S.length ≤ 9223372036854775807) (hok : SOk S) : ∃ V e, ACalls Try.prog 12 [slW l, cI d, slS S] (.tup [slI' V, cI e]) ∧ ACalls Try.prog 13 [slW l, cI d, slS S] (.tup [slI' V, cI e]) ∧ (e ≠ 0 → V = []) ∧
    (e = 0 → (1 ≤ S.length ∧ S.length ≤ 20) ∧ allZero l d S S.length ∧ V = (S.map (vS l d)).map ceilR ∧ ∀ j, j < S.length → goodB (vS l d (nth S j)) = true) ∧ ((1 ≤ S.length ∧ S.length ≤ 20) → allZero l d S S.length → (∀ j, j < S.length → goodB (vS l d (nth S j)) = true) → e = 0) := by
  by_cases h : 1 ≤ S.length ∧ S.length ≤ 20
  case neg =>
    obtain ⟨c1, c2⟩ := cost_arg l d S hl hS hok h
    exact ⟨[], 1, c1, c2, fun _ => rfl, fun q => absurd q (by decide), fun q => absurd q h⟩
  by_cases hz : allZero l d S S.length
  case neg =>
    obtain ⟨n, n1, n2⟩ := least_ex (p := fun j => j < S.length ∧ valE l d (nth S j) ≠ 0) (Classical.choose (Classical.not_forall.1 hz)) (by
      have := Classical.choose_spec (Classical.not_forall.1 hz)
      exact Classical.not_imp.1 this)
    have hz' : allZero l d S n := fun j hj => Classical.not_not.1 fun q => n2 j hj ⟨by omega, q⟩
    exact ⟨[], _, cost_fail l d S hl hS hok h n n1.1 hz' n1.2, rcost_fail l d S hl hS hok h n n1.1 hz' n1.2, fun _ => rfl, fun q => absurd q n1.2, fun _ q => absurd q hz⟩
  by_cases hg : ∀ j, j < S.length → goodB (vS l d (nth S j)) = true
  · exact ⟨_, 0, cost_walk l d S hl hS hok h hz S.length (Nat.le_refl _) hg _ 0 (.inl ⟨rfl, rfl, rfl⟩), rcost_walk l d S hl hS hok h hz _ 0 (.inl ⟨rfl, hg, rfl⟩), fun q => absurd rfl q, fun _ => ⟨h, hz, rfl, hg⟩, fun _ _ _ => rfl⟩
  · obtain ⟨n, n1, n2⟩ := least_ex (p := fun j => j < S.length ∧ goodB (vS l d (nth S j)) = false) (Classical.choose (Classical.not_forall.1 hg)) (by
      have := Classical.choose_spec (Classical.not_forall.1 hg)
      have := Classical.not_imp.1 this
      exact ⟨this.1, Bool.not_eq_true _ ▸ this.2⟩)
    have hg' : ∀ j, j < n → goodB (vS l d (nth S j)) = true := fun j hj => by
      have := n2 j hj
      cases e : goodB (vS l d (nth S j)) with
      | true => rfl
      | false => exact absurd ⟨by omega, e⟩ this
    exact ⟨[], 3, cost_walk l d S hl hS hok h hz n (by omega) hg' _ 3 (.inr ⟨rfl, n1.1, n1.2, rfl⟩), rcost_walk l d S hl hS hok h hz _ 3 (.inr ⟨rfl, ⟨n, n1⟩, rfl⟩), fun _ => rfl, fun q => absurd q (by decide), fun _ _ q => absurd q hg⟩
end
end Go.Proofs.Ytgpcmgjdkefdjaa
end
section
set_option linter.unusedVariables false
set_option linter.unusedSimpArgs false
set_option maxHeartbeats 8000000
set_option linter.unusedSectionVars false
namespace Go.Proofs.Ytgpcmgjdkefdjaa
open Lf Go
attribute [local irreducible] PureOp EffOp Ev RG W Then InBlock Lf.Fin nth App InitE Pick SubE EvL EvD EvP EvR ResL Lf.Lex SubR SubBR RA RAll EvC FinO FinM ResM ResD FinS val pw digs trimL
section
def sR : List Rat := [Rat.divInt 1 1, Rat.divInt 9 10, Rat.divInt 1 2]
def sR2 : List Rat := [Rat.divInt 1 1, Rat.divInt 1 3]
theorem sR_ok : (∀ k, k < 3 → 0 < nth sR k ∧ nth sR k ≤ if k = 0 then 1 else nth sR (k - 1)) ∧ (∀ k, k < 2 → 0 < nth sR2 k ∧ nth sR2 k ≤ if k = 0 then 1 else nth sR2 (k - 1)) := by
  constructor
  · intro k hk
    match k, hk with
    | 0, _ => decide +kernel
    | 1, _ => decide +kernel
    | 2, _ => decide +kernel
  · intro k hk
    match k, hk with
    | 0, _ => decide +kernel
    | 1, _ => decide +kernel
theorem bdc {p q : Int} (hp : -1208925819614629174706176 < p ∧ p < 1208925819614629174706176) (hq : -1208925819614629174706176 < q ∧ q < 1208925819614629174706176) (h : q ≠ 0) : bd (Rat.divInt p q) 6 := by
  have e := pw4
  exact bd_mono (bd_div (n := 4) h (by omega) (by omega)) (by omega)
theorem sR_bd : (∀ r ∈ sR, bd r 6) ∧ ∀ r ∈ sR2, bd r 6 := by
  constructor
  · intro r hr
    unfold sR at hr
    rcases List.mem_cons.1 hr with rfl | hr
    · exact bdc (by omega) (by omega) (by omega)
    rcases List.mem_cons.1 hr with rfl | hr
    · exact bdc (by omega) (by omega) (by omega)
    rcases List.mem_cons.1 hr with rfl | hr
    · exact bdc (by omega) (by omega) (by omega)
    · cases hr
  · intro r hr
    unfold sR2 at hr
    rcases List.mem_cons.1 hr with rfl | hr
    · exact bdc (by omega) (by omega) (by omega)
    rcases List.mem_cons.1 hr with rfl | hr
    · exact bdc (by omega) (by omega) (by omega)
    · cases hr
theorem bd6_ok {R : List Rat} (h : ∀ r ∈ R, bd r 6) : ∀ r ∈ R, okF r := fun r hr => bd_ok (h r hr) (by omega)
theorem sFOk : FOk (sR.map fqOf) ∧ FOk (sR2.map fqOf) := ⟨FOk_of (bd6_ok sR_bd.1) (by decide) sR_ok.1, FOk_of (bd6_ok sR_bd.2) (by decide) sR_ok.2⟩
/-- the value with factors that are given as1 numbers -/
def vsumR (R : List Rat) (d : Int) (l : List Fl) : Nat → Rat
  | 0 => 0
  | k + 1 => vsumR R d l k + ((nth l k).amt : Rat) * nth R (yrI d (nth l k)).toNat
theorem vsumR_eq {R : List Rat} (ok : ∀ r ∈ R, okF r) {d : Int} {l : List Fl} (h : ∀ k, k < l.length → (yrI d (nth l k)).toNat < R.length) : ∀ n, n ≤ l.length → vsum (R.map fqOf) d l n = vsumR R d l n
  | 0, _ => rfl
  | n + 1, hn => by
    have hk := h n (by omega)
    rw [vsum, vsumR, vsumR_eq ok h n (by omega), term, nth_fq hk, fqOf_val (ok _ (nth_mem hk))]
def s1 : List Fl := [⟨100, 10⟩, ⟨465, 20⟩, ⟨900, 30⟩]
def s2 : List Fl := [⟨99, 10⟩]
def s3 : List Fl := [⟨1195, 10⟩]
def s4 : List Fl := [⟨500, 5⟩]
theorem s1_vin : VIn s1 100 (sR.map fqOf) := ⟨by decide +kernel, sFOk.1, fewF_of sR_bd.1, by decide +kernel, by decide +kernel⟩
theorem s4_vin : VIn s4 100 (sR.map fqOf) ∧ VIn s4 100 (sR2.map fqOf) := ⟨⟨by decide +kernel, sFOk.1, fewF_of sR_bd.1, by decide +kernel, by decide +kernel⟩, ⟨by decide +kernel, sFOk.2, fewF_of sR_bd.2, by decide +kernel, by decide +kernel⟩⟩
theorem s1_val : vsum (sR.map fqOf) 100 s1 3 = Rat.divInt 43 1 := by
  rw [vsumR_eq (bd6_ok sR_bd.1) (by decide +kernel) 3 (by decide)]
  decide +kernel
theorem s4_val : vsum (sR.map fqOf) 100 s4 1 = Rat.divInt 9 2 ∧ vsum (sR2.map fqOf) 100 s4 1 = Rat.divInt 5 3 := by
  rw [vsumR_eq (bd6_ok sR_bd.1) (by decide +kernel) 1 (by decide), vsumR_eq (bd6_ok sR_bd.2) (by decide +kernel) 1 (by decide)]
  decide +kernel
theorem s_e : valE s2 100 (sR.map fqOf) = 20 ∧ valE s3 100 (sR.map fqOf) = 3 := by
  constructor
  · unfold valE
    rw [if_neg (fun q => q ⟨by decide +kernel, sFOk.1⟩), if_pos (by decide +kernel)]
  · unfold valE
    rw [if_neg (fun q => q ⟨by decide +kernel, sFOk.1⟩), if_neg (by decide +kernel), if_pos (by decide +kernel)]
theorem s_ceil : (ceilR (Rat.divInt 9 2) = 5 ∧ goodB (Rat.divInt 9 2) = true) ∧ (ceilR (Rat.divInt 5 3) = 2 ∧ goodB (Rat.divInt 5 3) = true) := by decide +kernel
def t1 : List Fl := [⟨100, 10⟩]
def t2 : List Fl := [⟨500, 10⟩]
def t3 : List Fl := [⟨100, 10⟩, ⟨500, 5⟩]
def t4 : List Fl := [⟨100, 4⟩, ⟨500, 12⟩]
theorem s_dear : Dear t1 t2 100 ∧ ¬ Dear t2 t1 100 ∧ ¬ Dear t3 t4 100 := by
  have a1 : LIn t1 100 := ⟨by decide +kernel, by decide +kernel⟩
  have a2 : LIn t2 100 := ⟨by decide +kernel, by decide +kernel⟩
  refine ⟨(dear_iff a1 a2).2 fun n hn => ?_, fun q => ?_, fun q => ?_⟩
  · have hn : (n : Int) ≤ 1 := hn
    match n, hn with
    | 0, _ => decide +kernel
    | 1, _ => decide +kernel
  · have := q.2.2 1
    revert this
    decide +kernel
  · have := q.2.2 2
    revert this
    decide +kernel
open Classical in
theorem small_ok : ACalls Try.prog 8 [] (.pv (cB true)) := by
  have ix : ∀ n : Int, (-1000 ≤ n ∧ n ≤ 1000) → i64B n := fun n h => by unfold i64B; omega
  have o1 := of_ok 1 1 (ix _ (by omega)) (ix _ (by omega)) (by omega)
  have o2 := of_ok 9 10 (ix _ (by omega)) (ix _ (by omega)) (by omega)
  have o3 := of_ok 1 2 (ix _ (by omega)) (ix _ (by omega)) (by omega)
  have o4 := of_ok 1 3 (ix _ (by omega)) (ix _ (by omega)) (by omega)
  have o5 := of_ok 43 1 (ix _ (by omega)) (ix _ (by omega)) (by omega)
  have f1 := fewF_of sR_bd.1
  have f2 := fewF_of sR_bd.2
  have v1 := (value_both s1 100 (sR.map fqOf) (by decide) (by decide) (few_FqOk f1) f1).1
  have v2 := (value_both s2 100 (sR.map fqOf) (by decide) (by decide) (few_FqOk f1) f1).1
  have v3 := (value_both s3 100 (sR.map fqOf) (by decide) (by decide) (few_FqOk f1) f1).1
  have e1 := valE_ok s1_vin (addsOk_few s1_vin (by decide))
  rw [show valV s1 100 (sR.map fqOf) = zF (Rat.divInt 43 1) from by unfold valV; rw [if_pos e1]; exact congrArg zF s1_val, e1] at v1
  rw [show valV s2 100 (sR.map fqOf) = zF0 from if_neg (by rw [s_e.1]; decide), s_e.1] at v2
  rw [show valV s3 100 (sR.map fqOf) = zF0 from if_neg (by rw [s_e.2]; decide), s_e.2] at v3
  have z1 := valE_ok s4_vin.1 (addsOk_few s4_vin.1 (by decide))
  have z2 := valE_ok s4_vin.2 (addsOk_few s4_vin.2 (by decide))
  have two : ∀ s, s ∈ [sR.map fqOf, sR2.map fqOf] → s = sR.map fqOf ∨ s = sR2.map fqOf := fun s hs => by simpa using hs
  have so1 : ∀ s ∈ [sR.map fqOf, sR2.map fqOf], fewF s := fun s hs => by
    rcases two s hs with rfl | rfl
    · exact f1
    · exact f2
  have so2 : ∀ s ∈ [sR.map fqOf, sR2.map fqOf], s.length ≤ 9223372036854775807 := fun s hs => by
    rcases two s hs with rfl | rfl <;> decide
  have so : SOk [sR.map fqOf, sR2.map fqOf] := ⟨so1, so2, fun s hs => few_FqOk (so1 s hs)⟩
  have n0 : nth [sR.map fqOf, sR2.map fqOf] 0 = sR.map fqOf := by rw [nth_eq (by simp)]; rfl
  have n1 : nth [sR.map fqOf, sR2.map fqOf] 1 = sR2.map fqOf := by rw [nth_eq (by simp)]; rfl
  obtain ⟨V, e, c1, _, _, c2, c3⟩ := cost_both s4 100 [sR.map fqOf, sR2.map fqOf] (by decide) (by decide) so
  have q1 : vS s4 100 (sR.map fqOf) = Rat.divInt 9 2 := s4_val.1
  have q2 : vS s4 100 (sR2.map fqOf) = Rat.divInt 5 3 := s4_val.2
  have e0 : e = 0 := c3 (by decide) (fun j hj => by
    match j, hj with
    | 0, _ => rw [n0]; exact z1
    | 1, _ => rw [n1]; exact z2) (fun j hj => by
    match j, hj with
    | 0, _ => rw [n0, q1]; exact s_ceil.1.2
    | 1, _ => rw [n1, q2]; exact s_ceil.2.2)
  have eV : V = [5, 2] := by
    rw [(c2 e0).2.2.1]
    simp only [List.map_cons, List.map_nil, q1, q2, s_ceil.1.1, s_ceil.2.1]
  subst e0 eV
  have i1 := ints_same [5, 2] (by decide)
  have m1 := same_any (sgn (Rat.divInt 43 1).num) (digs (mag (Rat.divInt 43 1).num)) (sgn (Rat.divInt 43 1).den) (digs (mag (Rat.divInt 43 1).den)) (by have := num_len (okF_of (x := 43) (y := 1) (i64_ok (ix _ (by omega))) (i64_ok (ix _ (by omega))) (by omega)).1; omega) (by have := num_len (okF_of (x := 43) (y := 1) (i64_ok (ix _ (by omega))) (i64_ok (ix _ (by omega))) (by omega)).2; omega)
  have d1 := dearer_ok t1 t2 100 (by decide) (by decide) true (by simp [s_dear.1])
  have d2 := dearer_ok t2 t1 100 (by decide) (by decide) false (by simp [s_dear.2.1])
  have d3 := dearer_ok t3 t4 100 (by decide) (by decide) false (by simp [s_dear.2.2])
  have k1 := pfac_ok (sR.map fqOf) (by decide) (few_FqOk f1) true (by simp [sFOk.1])
  have k2 := pfac_ok [] (by decide) (fun q hq => by cases hq) false (by simp [FOk])
  rw [show slF (sR.map fqOf) = slQ sR from by rw [slF, slF_of]] at v1 v2 v3 k1
  rw [show slS [sR.map fqOf, sR2.map fqOf] = .one (.sl [[.sl (sR.map encQ)], [.sl (sR2.map encQ)]]) from by rw [slS]; simp only [List.map_cons, List.map_nil, encS, slF_of]] at c1
  clear c2 c3 q1 q2 two so1 so2 n0 n1 so z1 z2 f1 f2 e1 ix
  unfold sR at v1 v2 v3 k1 c1
  unfold sR2 at c1
  unfold s1 at v1
  unfold s2 at v2
  unfold s3 at v3
  unfold s4 at c1
  unfold t1 t2 at d1 d2
  unfold t3 t4 at d3
  generalize Rat.divInt 1 1 = r1 at *
  generalize Rat.divInt 9 10 = r2 at *
  generalize Rat.divInt 1 2 = r3 at *
  generalize Rat.divInt 1 3 = r4 at *
  generalize Rat.divInt 43 1 = r5 at *
  refine ACalls.of_W (qs := [cB true]) [0] 116 Try.func8 (by kernel_rfl) rfl rfl rfl fun G => ?_
  refine W.initA (hw := ?_)
  repeat' (first | (refine W.weaken (Le.freeze1 (m := 51) rfl) ?_; apply W.region (id := 8)) | ((first | apply U_ | (apply Ug_; exact rfl; exact rfl) | (apply Ugq_; exact rfl; exact rfl)); (first | (apply Q_litD TYok; apply EvR.cons Ev.auto; (repeat (first | exact EvR.nil | apply EvR.cons Ev.auto)); exact rfl; exact rfl; exact rfl; exact rfl; exact rfl; exact rfl) | exact QX.B TYok | exact QX.Ext TYok | exact QX.Build TYok | exact QCd (o1) | exact QCd (o2) | exact QCd (o3) | exact QCd (o4) | exact QCd (o5) | exact QCd (v1) | exact QCd (v2) | exact QCd (v3) | exact QCd (c1) | exact QCd (i1) | exact QCd (m1) | exact QCd (d1) | exact QCd (d2) | exact QCd (d3) | exact QCd (k1) | exact QCd (k2)); exact rfl) | refine SX.Alloc TYok (h := ?_) | refine SX.Store TYok (h := ?_) | refine SX.Lit TYok (h := ?_) | refine SX.App TYok (h := ?_) | (apply S_appendd TYok; exact Ev.auto; exact Ev.auto; exact rfl; exact rfl; exact rfl; exact rfl; exact rfl; exact rfl; exact rfl; exact rfl; (intro r hr; first | (obtain ⟨_, _, rfl⟩ := List.mem_map.1 hr; rfl) | (obtain rfl := List.mem_singleton.1 hr; rfl)); (constructor <;> simp <;> omega); exact rfl) | refine SC ?_ | (apply S_isnil TYok; exact rfl; exact rfl; exact rfl; exact Ev.auto; intro bn hnil) | refine SG ?_ | (refine W.drawA (id := 10) (L := [false, false, false, false, false, false, false, false, false, false, false, false, false, false, false, false, false, false, false, false, false, false, false, false, false]) mixed rfl ?_) | exact RAll.nil | (refine RAll.cons rfl ?_ ?_) | (refine RA.step (L := [false, false, false, false, false, false, false, false, false, false, false, false, false, false, false, false, false, false, false, false, false, false, false, false, false]) (i := 0) (is := []) (by kernel_rfl) ?_) | (refine RA.step (L := [true, false, false, false, false, false, false, false, false, false, false, false, false, false, false, false, false, false, false, false, false, false, false, false, false]) (i := 1) (is := []) (by kernel_rfl) ?_) | (refine RA.step (L := [true, true, false, false, false, false, false, false, false, false, false, false, false, false, false, false, false, false, false, false, false, false, false, false, false]) (i := 2) (is := []) (by kernel_rfl) ?_) | (refine RA.step (L := [true, true, true, false, false, false, false, false, false, false, false, false, false, false, false, false, false, false, false, false, false, false, false, false, false]) (i := 3) (is := [4]) (by kernel_rfl) ?_) | (refine RA.step (L := [true, true, true, false, true, false, false, false, false, false, false, false, false, false, false, false, false, false, false, false, false, false, false, false, false]) (i := 3) (is := []) (by kernel_rfl) ?_) | (refine RA.step (L := [true, true, true, true, true, false, false, false, false, false, false, false, false, false, false, false, false, false, false, false, false, false, false, false, false]) (i := 5) (is := []) (by kernel_rfl) ?_) | (refine RA.step (L := [true, true, true, true, true, true, false, false, false, false, false, false, false, false, false, false, false, false, false, false, false, false, false, false, false]) (i := 6) (is := []) (by kernel_rfl) ?_) | (refine RA.step (L := [true, true, true, true, true, true, true, false, false, false, false, false, false, false, false, false, false, false, false, false, false, false, false, false, false]) (i := 7) (is := []) (by kernel_rfl) ?_) | (refine RA.step (L := [true, true, true, true, true, true, true, true, false, false, false, false, false, false, false, false, false, false, false, false, false, false, false, false, false]) (i := 8) (is := []) (by kernel_rfl) ?_) | (refine RA.step (L := [true, true, true, true, true, true, true, true, true, false, false, false, false, false, false, false, false, false, false, false, false, false, false, false, false]) (i := 9) (is := []) (by kernel_rfl) ?_) | (refine RA.step (L := [true, true, true, true, true, true, true, true, true, true, false, false, false, false, false, false, false, false, false, false, false, false, false, false, false]) (i := 10) (is := []) (by kernel_rfl) ?_) | (refine RA.step (L := [true, true, true, true, true, true, true, true, true, true, true, false, false, false, false, false, false, false, false, false, false, false, false, false, false]) (i := 11) (is := []) (by kernel_rfl) ?_) | (refine RA.step (L := [true, true, true, true, true, true, true, true, true, true, true, true, false, false, false, false, false, false, false, false, false, false, false, false, false]) (i := 12) (is := []) (by kernel_rfl) ?_) | (refine RA.step (L := [true, true, true, true, true, true, true, true, true, true, true, true, true, false, false, false, false, false, false, false, false, false, false, false, false]) (i := 13) (is := []) (by kernel_rfl) ?_) | (refine RA.step (L := [true, true, true, true, true, true, true, true, true, true, true, true, true, true, false, false, false, false, false, false, false, false, false, false, false]) (i := 14) (is := []) (by kernel_rfl) ?_) | (refine RA.step (L := [true, true, true, true, true, true, true, true, true, true, true, true, true, true, true, false, false, false, false, false, false, false, false, false, false]) (i := 15) (is := []) (by kernel_rfl) ?_) | (refine RA.step (L := [true, true, true, true, true, true, true, true, true, true, true, true, true, true, true, true, false, false, false, false, false, false, false, false, false]) (i := 16) (is := []) (by kernel_rfl) ?_) | (refine RA.step (L := [true, true, true, true, true, true, true, true, true, true, true, true, true, true, true, true, true, false, false, false, false, false, false, false, false]) (i := 17) (is := []) (by kernel_rfl) ?_) | (refine RA.step (L := [true, true, true, true, true, true, true, true, true, true, true, true, true, true, true, true, true, true, false, false, false, false, false, false, false]) (i := 18) (is := []) (by kernel_rfl) ?_) | (refine RA.step (L := [true, true, true, true, true, true, true, true, true, true, true, true, true, true, true, true, true, true, true, false, false, false, false, false, false]) (i := 19) (is := []) (by kernel_rfl) ?_) | (refine RA.step (L := [true, true, true, true, true, true, true, true, true, true, true, true, true, true, true, true, true, true, true, true, false, false, false, false, false]) (i := 20) (is := [21]) (by kernel_rfl) ?_) | (refine RA.step (L := [true, true, true, true, true, true, true, true, true, true, true, true, true, true, true, true, true, true, true, true, false, true, false, false, false]) (i := 20) (is := []) (by kernel_rfl) ?_) | (refine RA.step (L := [true, true, true, true, true, true, true, true, true, true, true, true, true, true, true, true, true, true, true, true, true, true, false, false, false]) (i := 22) (is := []) (by kernel_rfl) ?_) | (refine RA.step (L := [true, true, true, true, true, true, true, true, true, true, true, true, true, true, true, true, true, true, true, true, true, true, true, false, false]) (i := 23) (is := []) (by kernel_rfl) ?_) | (refine RA.step (L := [true, true, true, true, true, true, true, true, true, true, true, true, true, true, true, true, true, true, true, true, true, true, true, true, false]) (i := 24) (is := []) (by kernel_rfl) ?_) | (refine RA.done (L := [true, true, true, true, true, true, true, true, true, true, true, true, true, true, true, true, true, true, true, true, true, true, true, true, true]) (by kernel_rfl) ?_) | (refine RA.step (L := [true, true, true, true, true, true, true, true, true, true, true, true, true, true, true, true, true, true, true, true, true, false, false, false, false]) (i := 21) (is := []) (by kernel_rfl) ?_) | (refine RA.step (L := [true, true, true, true, false, false, false, false, false, false, false, false, false, false, false, false, false, false, false, false, false, false, false, false, false]) (i := 4) (is := []) (by kernel_rfl) ?_) | (refine W.condA (ht := fun hb => ?_) (hf := fun hb => ?_) <;> (try simp at hb) <;> (try (exfalso; omega))))
  all_goals first
    | exact Fin.ret ResL.auto
    | trace_state
end
end Go.Proofs.Ytgpcmgjdkefdjaa
end
section
set_option linter.unusedVariables false
set_option linter.unusedSimpArgs false
set_option maxHeartbeats 8000000
set_option linter.unusedSectionVars false
namespace Go.Proofs.Ytgpcmgjdkefdjaa
open Lf Go
attribute [local irreducible] PureOp EffOp Ev RG W Then InBlock Lf.Fin nth App InitE Pick SubE EvL EvD EvP EvR ResL Lf.Lex SubR SubBR RA RAll EvC FinO FinM ResM ResD FinS val pw digs trimL
section
def vs (L : List Fq) (d : Int) : List Fl → Rat
  | [] => 0
  | f :: l => term L d f + vs L d l
theorem vs_app (L : List Fq) (d : Int) (l m : List Fl) : vs L d (l ++ m) = vs L d l + vs L d m := by
  induction l with
  | nil => rw [List.nil_append, vs]; grind
  | cons f l ih => rw [List.cons_append, vs, vs, ih]; grind
theorem vs_one (L : List Fq) (d : Int) (f : Fl) : vs L d [f] = term L d f := by
  rw [vs, vs]; grind
theorem vsum_take {L : List Fq} {d : Int} {l : List Fl} : ∀ k, k ≤ l.length → vsum L d l k = vs L d (l.take k)
  | 0, _ => rfl
  | k + 1, hk => by rw [vsum, vsum_take k (by omega), take_nth (by omega), vs_app, vs_one]
theorem vsum_all (L : List Fq) (d : Int) (l : List Fl) : vsum L d l l.length = vs L d l := by
  rw [vsum_take _ (Nat.le_refl _), List.take_length]
theorem vs_rev (L : List Fq) (d : Int) (l : List Fl) : vs L d l.reverse = vs L d l := by
  induction l with
  | nil => rfl
  | cons f l ih => rw [List.reverse_cons, vs_app, vs_one, ih, vs]; grind
end
end Go.Proofs.Ytgpcmgjdkefdjaa
end
section
set_option linter.unusedVariables false
set_option linter.unusedSimpArgs false
set_option maxHeartbeats 8000000
set_option linter.unusedSectionVars false
namespace Go.Proofs.Ytgpcmgjdkefdjaa
open Lf Go
attribute [local irreducible] PureOp EffOp Ev RG W Then InBlock Lf.Fin nth App InitE Pick SubE EvL EvD EvP EvR ResL Lf.Lex SubR SubBR RA RAll EvC FinO FinM ResM ResD FinS val pw digs trimL
section
theorem flowsB_rev (a : List Fl) (d : Int) : flowsB a.reverse d = flowsB a d := by
  unfold flowsB
  rw [List.length_reverse, List.all_reverse]
theorem valE_rev (a : List Fl) (d : Int) (L : List Fq) : valE a.reverse d L = valE a d L ∨ ((valE a d L = 0 ∨ valE a d L = 6) ∧ (valE a.reverse d L = 0 ∨ valE a.reverse d L = 6)) := by
  unfold valE
  rw [flowsB_rev, List.any_reverse, List.any_reverse]
  split
  · exact .inl rfl
  · split
    · exact .inl rfl
    · split
      · exact .inl rfl
      · refine .inr ⟨?_, ?_⟩ <;> split <;> simp
theorem vsum_rev (a : List Fl) (d : Int) (L : List Fq) : vsum L d a.reverse a.reverse.length = vsum L d a a.length := by
  rw [vsum_all, vsum_all, vs_rev]
theorem flowsB_app' {a b : List Fl} {d : Int} (h : flowsB a d = true) (k : flowsB b d = true) (hl : a.length + b.length ≤ 400) : flowsB (a ++ b) d = true := by
  unfold flowsB at h k ⊢
  simp only [Bool.and_eq_true, decide_eq_true_iff, List.all_append, List.length_append] at h k ⊢
  exact ⟨⟨h.1.1, by omega⟩, h.2, k.2⟩
theorem join_E {a b : List Fl} {d : Int} {L : List Fq} (ha : VIn a d L) (hb : VIn b d L) (hl : a.length + b.length ≤ 400) : valE (a ++ b) d L = 0 ∨ valE (a ++ b) d L = 6 :=
  valE_of ⟨flowsB_app' ha.fl hb.fl hl, ha.fk, ha.fw, fun f hf => (List.mem_append.1 hf).elim (ha.early f) (hb.early f), fun f hf => (List.mem_append.1 hf).elim (ha.late f) (hb.late f)⟩
theorem vsum_join (a b : List Fl) (d : Int) (L : List Fq) : vsum L d (a ++ b) (a ++ b).length = vsum L d a a.length + vsum L d b b.length := by
  rw [vsum_all, vsum_all, vsum_all, vs_app]
theorem fac_mono {L : List Fq} (hF : FOk L) (i : Nat) : ∀ n, i + n < L.length → (nth L (i + n)).val ≤ (nth L i).val
  | 0, _ => Rat.le_refl
  | n + 1, h => by
    have ih := fac_mono hF i n (by omega)
    have c := (hF.1 (i + (n + 1)) h).2.2
    rw [show i + (n + 1) = (i + n) + 1 by omega, prv_succ] at c
    rw [show i + (n + 1) = (i + n) + 1 by omega]
    exact Rat.le_trans c ih
theorem later_le {x y : Fl} {d : Int} {L : List Fq} (hx : VIn [x] d L) (hy : VIn [y] d L) (ha : y.amt = x.amt) (h0 : 0 ≤ x.amt) (hd : x.day ≤ y.day) : vsum L d [y] [y].length ≤ vsum L d [x] [x].length := by
  rw [vsum_all, vsum_all, vs_one, vs_one]
  have k1 := hx.early x (List.mem_singleton.2 rfl)
  have k2 := hy.late y (List.mem_singleton.2 rfl)
  have n1 : 0 ≤ yrI d x := by unfold yrI; omega
  have n2 : yrI d x ≤ yrI d y := by unfold yrI; omega
  have m := fac_mono hx.fk (yrI d x).toNat ((yrI d y).toNat - (yrI d x).toNat) (by omega)
  rw [show (yrI d x).toNat + ((yrI d y).toNat - (yrI d x).toNat) = (yrI d y).toNat by omega] at m
  unfold term
  rw [ha]
  exact Rat.mul_le_mul_of_nonneg_left m (Rat.intCast_nonneg.2 h0)
theorem same_gen (s t s' t' : Int) (l m l' m' : List Int) (hl : l.length ≤ 1000000) (hl' : l'.length ≤ 1000000) (hm : m.length ≤ 1000000) (hm' : m'.length ≤ 1000000) : ACalls Try.prog 14 [fB s l s' l', fB t m t' m'] (.pv (cB ((decide (s = t) && decide (l = m)) && (decide (s' = t') && decide (l' = m'))))) := by
  have s1 := sameBig_ok s t l m hl hm
  have s2 := sameBig_ok s' t' l' m' hl' hm'
  generalize (decide (s = t) && decide (l = m)) = b1 at *
  generalize (decide (s' = t') && decide (l' = m')) = b2 at *
  refine ACalls.of_W (qs := [cB (b1 && b2)]) [4] 17 Try.func14 (by kernel_rfl) rfl rfl rfl fun G => ?_
  refine W.initA (hw := ?_)
  repeat' (first | ((first | apply U_ | (apply Ug_; exact rfl; exact rfl) | (apply Ugq_; exact rfl; exact rfl)); (first | exact QX.B TYok | exact QCd (s1) | exact QCd (s2)); exact rfl) | refine SX.Box TYok (h := ?_) | refine SC ?_ | refine SG ?_ | (refine W.condA (ht := fun hb => ?_) (hf := fun hb => ?_) <;> (try simp at hb) <;> (try (exfalso; omega))))
  all_goals exact Fin.ret ResL.auto
theorem qcmp_any' (s t s' t' : Int) (l m l' m' : List Int) (hl : l.length ≤ 1000000) (hl' : l'.length ≤ 1000000) (hm : m.length ≤ 1000000) (hm' : m'.length ≤ 1000000) : ∃ c, ACalls Try.prog 21 [fB s l s' l', fB t m t' m'] (.pv (cI c)) := by
  by_cases h : rightFB s l s' l' = true ∧ rightFB t m t' m' = true
  · obtain ⟨r, o, rfl, rfl, rfl, rfl⟩ := frac_of h.1
    obtain ⟨q, p, rfl, rfl, rfl, rfl⟩ := frac_of h.2
    exact ⟨_, qcmp_ok r q o p⟩
  · exact ⟨0, qcmp_arg s s' t t' l l' m m' (by omega) (by omega) (by omega) (by omega) h⟩
/-- what a sum's call gives -/
theorem qadd_gen (a b : List Fl) (d : Int) (L : List Fq) (hf : fewF L) : ∃ s l s' l' e, ACalls Try.prog 23 [valV a d L, valV b d L] (.tup [fB s l s' l', cI e]) ∧ l.length ≤ 1000000 ∧ l'.length ≤ 1000000 ∧ (e = 0 → valE a d L = 0 → valE b d L = 0 → fB s l s' l' = zF (vsum L d a a.length + vsum L d b b.length)) := by
  by_cases h : valE a d L = 0 ∧ valE b d L = 0
  · obtain ⟨i1, _, o1⟩ := valE_zero hf h.1
    obtain ⟨i2, _, o2⟩ := valE_zero hf h.2
    rw [show valV a d L = zF (vsum L d a a.length) from if_pos h.1, show valV b d L = zF (vsum L d b b.length) from if_pos h.2]
    by_cases k : addOk (vsum L d a a.length) (vsum L d b b.length)
    · have o := addOk_okF k
      exact ⟨_, _, _, _, 0, qadd_yes _ _ o1 o2 k, by have := num_len o.1; omega, by have := num_len o.2; omega, fun _ _ _ => rfl⟩
    · exact ⟨0, [], 0, [], 6, qadd_no _ _ o1 o2 k, by decide, by decide, fun q => absurd q (by decide)⟩
  · obtain ⟨s0, a0, s1, a1, eV, l0, l1⟩ := valV_form a d L hf
    obtain ⟨t0, b0, t1, b1, eW, l2, l3⟩ := valV_form b d L hf
    rw [eV, eW]
    by_cases k : rightFB s0 a0 s1 a1 = true ∧ rightFB t0 b0 t1 b1 = true
    · obtain ⟨r, o, rfl, rfl, rfl, rfl⟩ := frac_of k.1
      obtain ⟨q, p, rfl, rfl, rfl, rfl⟩ := frac_of k.2
      by_cases m : addOk r q
      · have o' := addOk_okF m
        exact ⟨_, _, _, _, 0, qadd_yes _ _ o p m, by have := num_len o'.1; omega, by have := num_len o'.2; omega, fun _ q1 q2 => absurd ⟨q1, q2⟩ h⟩
      · exact ⟨0, [], 0, [], 6, qadd_no _ _ o p m, by decide, by decide, fun q => absurd q (by decide)⟩
    · exact ⟨0, [], 0, [], 1, qadd_arg s0 s1 t0 t1 a0 a1 b0 b1 (by omega) (by omega) (by omega) (by omega) k, by decide, by decide, fun q => absurd q (by decide)⟩
end
end Go.Proofs.Ytgpcmgjdkefdjaa
end
section
set_option linter.unusedVariables false
set_option linter.unusedSimpArgs false
set_option maxHeartbeats 8000000
set_option linter.unusedSectionVars false
namespace Go.Proofs.Ytgpcmgjdkefdjaa
open Lf Go
attribute [local irreducible] PureOp EffOp Ev RG W Then InBlock Lf.Fin nth App InitE Pick SubE EvL EvD EvP EvR ResL Lf.Lex SubR SubBR RA RAll EvC FinO FinM ResM ResD FinS val pw digs trimL
section
theorem finB_of {E e m c : Int} (h : E = 0 → e = 0 → 0 ≤ m → 0 ≤ c) : (true && (!decide (E = 0) || !decide (e = 0) || decide (m < 0) || decide (c ≥ 0))) = true := by
  by_cases h1 : E = 0
  · by_cases h2 : e = 0
    · by_cases h3 : m < 0
      · simp [h3]
      · have := h h1 h2 (by omega)
        simp [h1, h2, h3, this]
    · simp [h2]
  · simp [h1]
open Classical in
theorem law_sums (a b : List Fl) (d : Int) (L : List Fq) (x : Fl) (w : Int) (hw : 0 ≤ w ∧ w ≤ 65535) (hx : i64B x.day) (hla : a.length ≤ 9223372036854775807) (hlb : b.length ≤ 9223372036854775807) (hL : L.length ≤ 9223372036854775807) (hq : ∀ q ∈ L, FqOk q) :
    ACalls Try.prog 5 [slW a, slW b, cI d, slF L, aW x, .one (.int .u16 w)] (.pv (cB true)) := by
  have h0 := small_ok
  have f1 := few_ok a L hla hL (decide ((a.length ≤ 20 ∧ L.length ≤ 12) ∧ fewF L)) (by simp)
  have f2 := few_ok b [] hlb (by decide) (decide (b.length ≤ 20)) (by simp [fewF])
  by_cases h : ((a.length ≤ 20 ∧ L.length ≤ 12) ∧ fewF L) ∧ b.length ≤ 20
  case neg =>
    have hbad : decide ((a.length ≤ 20 ∧ L.length ≤ 12) ∧ fewF L) = true ∧ decide (b.length ≤ 20) = true → False := fun q => h ⟨of_decide_eq_true q.1, of_decide_eq_true q.2⟩
    generalize decide ((a.length ≤ 20 ∧ L.length ≤ 12) ∧ fewF L) = b1 at *
    generalize decide (b.length ≤ 20) = b2 at *
    refine ACalls.of_W (qs := [cB true]) [12] 186 Try.func5 (by kernel_rfl) rfl rfl rfl fun G => ?_
    refine W.initA (hw := ?_)
    repeat' (first | ((first | apply U_ | (apply Ug_; exact rfl; exact rfl) | (apply Ugq_; exact rfl; exact rfl)); (first | exact QX.B TYok | exact QX.Len TYok | exact QX.Idx TYok | exact QX.Ext TYok | exact QX.Conv TYok | exact QCd (h0) | exact QCd (f1) | exact QCd (f2)); exact rfl) | refine SX.Alloc TYok (h := ?_) | refine SX.Store TYok (h := ?_) | refine SX.Lit TYok (h := ?_) | refine SX.App TYok (h := ?_) | refine SX.Box TYok (h := ?_) | refine SC ?_ | (apply S_isnil TYok; exact rfl; exact rfl; exact rfl; exact Ev.auto; intro bn hnil) | refine SG ?_ | (refine W.condA (ht := fun hb => ?_) (hf := fun hb => ?_) <;> (try simp at hb) <;> (try (exfalso; first | exact hbad hb | omega))))
    all_goals first
      | exact Fin.ret ResL.auto
      | trace_state
  obtain ⟨h1, h2⟩ := h
  rw [decide_eq_true h1] at f1
  rw [decide_eq_true h2] at f2
  have h11 := h1.1.1
  refine ACalls.of_W (qs := [cB true]) [12] 186 Try.func5 (by kernel_rfl) rfl rfl rfl fun G => ?_
  refine W.initA (hw := ?_)
  repeat' (first | ((first | apply U_ | (apply Ug_; exact rfl; exact rfl) | (apply Ugq_; exact rfl; exact rfl)); (first | exact QX.B TYok | exact QX.Len TYok | exact QX.Idx TYok | exact QX.Ext TYok | exact QX.Conv TYok | exact QCd (h0) | exact QCd (f1) | exact QCd (f2)); exact rfl) | refine SX.Alloc TYok (h := ?_) | refine SX.Store TYok (h := ?_) | refine SX.Lit TYok (h := ?_) | refine SX.App TYok (h := ?_) | refine SX.Box TYok (h := ?_) | refine SC ?_ | (apply S_isnil TYok; exact rfl; exact rfl; exact rfl; exact Ev.auto; intro bn hnil) | refine SG ?_ | (refine W.condA (ht := fun hb => ?_) (hf := fun hb => ?_) <;> (try simp at hb) <;> (try (exfalso; omega))))
  refine W.weaken (Le.nilOwn (t := 14) (n := 14) (E := 44) (sz := 2) rfl) ?_
  apply W.loopP (σ := Nat) 186 [0, 1, 2, 3, 5, 10, 13] (fun k => k ≤ a.length) (fun k => [(15, vI ((a.length : Int) - 1 - k)), (14, (True, .slc 14))]) (fun k => [(10, ⟨44, 2, [encW x]⟩), (14, ⟨44, 2, (a.reverse.take k).map encW⟩)]) (fun k => a.length - k) (0)
  case hp => repeat (first | exact Pick.nil | apply Pick.cons rfl)
  case h0 =>
    refine ⟨by omega, ?_⟩
    rw [show (a.length : Int) - 1 - ((0 : Nat) : Int) = (a.length : Int) - 1 by omega]
    exact Le.auto
  case round =>
    rintro k gk
    apply W.norm (by repeat (first | exact App.nil | apply App.cons))
    by_cases hk : k < a.length
    · have hi : (a.length : Int) - 1 - k = ((a.length - 1 - k : Nat) : Int) := by omega
      have hil : a.length - 1 - k < a.length := by omega
      have e1 : a.reverse.take (k + 1) = a.reverse.take k ++ [nth a (a.length - 1 - k)] := by
        rw [take_nth (by simpa using hk), nth_eq (by simpa using hk), List.getElem_reverse, nth_eq hil]
      have hi2 : (a.length : Int) - 1 - ((k + 1 : Nat) : Int) = ((a.length - 1 - k : Nat) : Int) - 1 := by omega
      have l1 : (a.reverse.take k).length ≤ 20 := by simp; omega
      rw [hi]
      generalize a.length - 1 - k = i at *
      generalize a.reverse.take k = M at *
      repeat' (first | ((first | apply U_ | (apply Ug_; exact rfl; exact rfl) | (apply Ugq_; exact rfl; exact rfl)); (first | exact QX.B TYok | exact QX.Len TYok | exact QX.Idx TYok | exact QX.Ext TYok | exact QX.Conv TYok); exact rfl) | refine SX.Alloc TYok (h := ?_) | refine SX.Store TYok (h := ?_) | refine SX.Lit TYok (h := ?_) | refine SX.App TYok (h := ?_) | refine SX.Box TYok (h := ?_) | refine SC ?_ | (apply S_isnil TYok; exact rfl; exact rfl; exact rfl; exact Ev.auto; intro bn hnil) | refine SG ?_ | (refine W.condA (ht := fun hb => ?_) (hf := fun hb => ?_) <;> (try simp at hb) <;> (try (exfalso; omega))))
      all_goals first
        | (refine ⟨k + 1, by omega, ?_, by omega⟩; (try dsimp only); rw [hi2, e1, List.map_append, List.map_cons, List.map_nil]; exact Le.auto)
        | (exfalso; omega)
        | trace_state
    obtain rfl : k = a.length := by omega
    have e2 : a.reverse.take a.length = a.reverse := List.take_of_length_le (by simp)
    rw [e2]
    have lr : a.reverse.length ≤ 9223372036854775807 := by simp; omega
    have lj : (a ++ b).length ≤ 9223372036854775807 := by simp; omega
    obtain ⟨v1, _⟩ := value_both a d L hla hL hq h1.2
    obtain ⟨v2, _⟩ := value_both b d L hlb hL hq h1.2
    obtain ⟨v3, _⟩ := value_both a.reverse d L lr hL hq h1.2
    obtain ⟨v4, _⟩ := value_both (a ++ b) d L lj hL hq h1.2
    obtain ⟨v5, _⟩ := value_both [x] d L (by simp) hL hq h1.2
    obtain ⟨p5, q5, p5', q5', e5, ad, lp5, lq5, a5⟩ := qadd_gen a b d L h1.2
    obtain ⟨p1, q1, p1', q1', eV1, l1, l1'⟩ := valV_form a d L h1.2
    obtain ⟨p2, q2, p2', q2', eV2, l2, l2'⟩ := valV_form b d L h1.2
    obtain ⟨p3, q3, p3', q3', eV3, l3, l3'⟩ := valV_form a.reverse d L h1.2
    obtain ⟨p4, q4, p4', q4', eV4, l4, l4'⟩ := valV_form (a ++ b) d L h1.2
    have s13 := same_gen p1 p3 p1' p3' q1 q3 q1' q3' l1 l1' l3 l3'
    have s54 := same_gen p5 p4 p5' p4' q5 q4 q5' q4' lp5 lq5 l4 l4'
    have same_of : ∀ {s t s' t' : Int} {l m l' m' : List Int}, fB s l s' l' = fB t m t' m' → ((decide (s = t) && decide (l = m)) && (decide (s' = t') && decide (l' = m'))) = true := fun {s t s' t' l m l' m'} h => by
      have hj : ∀ {u v : List Int}, u.map Lf.encI = v.map Lf.encI → u = v := fun {u v} h => by
        induction u generalizing v with
        | nil => cases v with
          | nil => rfl
          | cons _ _ => cases h
        | cons y u ih => cases v with
          | nil => cases h
          | cons z v =>
            simp only [List.map_cons, List.cons.injEq] at h
            obtain ⟨g1, g2⟩ := h
            simp only [Lf.encI, List.cons.injEq, Cell.int.injEq] at g1
            rw [g1.1.2, ih g2]
      simp only [PV.agg.injEq, List.cons.injEq, Cell.int.injEq, Cell.sl.injEq] at h
      obtain ⟨g1, g2, g3, g4, _⟩ := h
      rw [decide_eq_true g1.2, decide_eq_true (hj g2), decide_eq_true g3.2, decide_eq_true (hj g4)]; rfl
    have t13 : valE a d L = 0 → valE a.reverse d L = 0 → ((decide (p1 = p3) && decide (q1 = q3)) && (decide (p1' = p3') && decide (q1' = q3'))) = true := fun k1 k3 => same_of (by
      rw [← eV1, ← eV3, show valV a d L = zF (vsum L d a a.length) from if_pos k1, show valV a.reverse d L = zF (vsum L d a.reverse a.reverse.length) from if_pos k3, vsum_rev])
    have t54 : valE a d L = 0 → valE b d L = 0 → e5 = 0 → valE (a ++ b) d L = 0 → ((decide (p5 = p4) && decide (q5 = q4)) && (decide (p5' = p4') && decide (q5' = q4'))) = true := fun k1 k2 k5 k4 => same_of (by
      rw [a5 k5 k1 k2, ← eV4, show valV (a ++ b) d L = zF (vsum L d (a ++ b) (a ++ b).length) from if_pos k4, vsum_join])
    have j4 : valE a d L = 0 → valE b d L = 0 → valE (a ++ b) d L = 0 ∨ valE (a ++ b) d L = 6 := fun k1 k2 => join_E (valE_zero h1.2 k1).1 (valE_zero h1.2 k2).1 (by omega)
    have r3 := valE_rev a d L
    generalize ((decide (p1 = p3) && decide (q1 = q3)) && (decide (p1' = p3') && decide (q1' = q3'))) = B1 at *
    generalize ((decide (p5 = p4) && decide (q5 = q4)) && (decide (p5' = p4') && decide (q5' = q4'))) = B2 at *
    rw [eV1] at v1
    rw [eV2] at v2
    rw [eV3] at v3
    rw [eV4] at v4
    rw [eV1, eV2] at ad
    rw [show slW (a ++ b) = .one (.sl (a.map encW ++ b.map encW)) from by rw [slW, List.map_append]] at v4
    -- the payment, and the same payment later
    have key : ∀ y : Int, (y = x.day + w ∨ y < 0) → ∃ V7 e7 c, ACalls Try.prog 10 [slW [⟨y, x.amt⟩], cI d, slF L] (.tup [V7, cI e7]) ∧ ∃ p q p' q', V7 = fB p q p' q' ∧ ACalls Try.prog 21 [valV [x] d L, V7] (.pv (cI c)) ∧ (valE [x] d L = 0 → e7 = 0 → 0 ≤ x.amt → 0 ≤ c) := fun y hy => by
      obtain ⟨v7, _⟩ := value_both [(⟨y, x.amt⟩ : Fl)] d L (by simp) hL hq h1.2
      obtain ⟨p6, q6, p6', q6', eV6, l6, l6'⟩ := valV_form [x] d L h1.2
      obtain ⟨p7, q7, p7', q7', eV7, l7, l7'⟩ := valV_form [(⟨y, x.amt⟩ : Fl)] d L h1.2
      by_cases k : valE [x] d L = 0 ∧ valE [(⟨y, x.amt⟩ : Fl)] d L = 0
      · obtain ⟨i1, _, o1⟩ := valE_zero h1.2 k.1
        obtain ⟨i2, _, o2⟩ := valE_zero h1.2 k.2
        have c1 := qcmp_ok _ _ o1 o2
        rw [← show valV [x] d L = zF (vsum L d [x] [x].length) from if_pos k.1, ← show valV [(⟨y, x.amt⟩ : Fl)] d L = zF (vsum L d [⟨y, x.amt⟩] [(⟨y, x.amt⟩ : Fl)].length) from if_pos k.2] at c1
        refine ⟨_, _, _, v7, p7, q7, p7', q7', eV7, c1, fun _ _ h0 => ?_⟩
        have f7 := ((flowsB_yes i2.fl).2 _ (List.mem_singleton.2 rfl)).1
        have le := later_le i1 i2 rfl h0 (by show x.day ≤ y; have : (0 : Int) ≤ y := f7.1; omega)
        rcases cmpR_cases (vsum L d [x] [x].length) (vsum L d [(⟨y, x.amt⟩ : Fl)] [(⟨y, x.amt⟩ : Fl)].length) with q | q | q
        · exact absurd q.2 (by grind)
        · omega
        · omega
      · rw [eV6]
        obtain ⟨c, c1⟩ := qcmp_any' p6 p7 p6' p7' q6 q7 q6' q7' l6 l6' l7 l7'
        exact ⟨_, _, c, v7, p7, q7, p7', q7', eV7, by rw [eV7]; exact c1, fun k1 k2 => absurd ⟨k1, k2⟩ k⟩
    obtain ⟨p6, q6, p6', q6', eV6, l6, l6'⟩ := valV_form [x] d L h1.2
    rw [eV6] at v5 key
    have bA : (¬ valE a d L = valE a.reverse d L ∧ ¬ valE a d L = 6) ∧ ¬ valE a.reverse d L = 6 ∨ (valE a d L = 0 ∧ valE a.reverse d L = 0) ∧ B1 = false → False := fun q => by
      rcases q with q | q
      · omega
      · rw [t13 q.1.1 q.1.2] at q; cases q.2
    clear eV1 eV2 eV3 eV4 eV6 a5 same_of t13 r3
    generalize valE a d L = E1 at *
    generalize valE b d L = E2 at *
    generalize valE a.reverse d L = E3 at *
    generalize valE (a ++ b) d L = E4 at *
    generalize valE [x] d L = E6 at *
    have bB : E1 = 0 ∧ E2 = 0 → (¬ E4 = 0 ∧ ¬ E4 = 6 ∨ (e5 = 0 ∧ E4 = 0) ∧ B2 = false) → False := fun q r => by
      rcases r with r | r
      · have := j4 q.1 q.2; omega
      · rw [t54 q.1 q.2 r.1.1 r.1.2] at r; cases r.2
    refine W.weaken (Le.freeze1 (m := 14) rfl) ?_
    by_cases ho : x.day + w ≤ 9223372036854775807
    · obtain ⟨V7, e7, c, v7, ⟨p7, q7, p7', q7', rfl, c7, fin⟩⟩ := key (x.day + w) (.inl rfl)
      have finB : (true && (!decide (E6 = 0) || !decide (e7 = 0) || decide (x.amt < 0) || decide (c ≥ 0))) = true := finB_of fin
      unfold i64B at hx
      clear key
      repeat' (first | (refine RG.weaken (Le.freeze1 (m := 81) rfl) ?_) | (refine W.purgeR [(9, [0, 1, 2, 3, 5, 10, 13, 14]), (13, [2, 3, 5, 10, 13, 16, 17, 18, 19, 20, 21, 22, 23]), (15, [2, 3, 5, 10, 13, 16, 17, 18, 19, 22, 23]), (19, [2, 3, 5, 10, 13]), (21, [2, 3, 10, 13, 26, 27])] rfl (by repeat (first | exact PN.nil | apply PN.po rfl | (apply PN.pa; exact rfl; (repeat (first | (apply NR.cons; exact rfl) | exact NR.nil rfl))) | apply PN.a rfl | apply PN.s rfl | apply PN.u rfl | apply PN.m rfl | apply PN.k rfl | apply PN.i rfl | apply PN.skip)) (by repeat (first | exact PB.nil | (apply PB.one; exact rfl; (focus (first | (dsimp only; done) | (dsimp only; exact rfl) | exact rfl)); (focus (first | (dsimp only; done) | (dsimp only; exact rfl) | exact rfl)); exact rfl; (repeat (first | (apply NR.cons; exact rfl) | exact NR.nil rfl)))  | apply PB.cons rfl)) ?_) | ((first | apply U_ | (apply Ug_; exact rfl; exact rfl) | (apply Ugq_; exact rfl; exact rfl)); (first | (apply Q_litD TYok; apply EvR.cons Ev.auto; (repeat (first | exact EvR.nil | apply EvR.cons Ev.auto)); exact rfl; exact rfl; exact rfl; exact rfl; exact rfl; exact rfl) | exact QX.B TYok | exact QX.Len TYok | exact QX.Idx TYok | exact QX.Ext TYok | exact QX.Conv TYok | exact QCd (v1) | exact QCd (v2) | exact QCd (v3) | exact QCd (v4) | exact QCd (v5) | exact QCd (v7) | exact QCd (ad) | exact QCd (s13) | exact QCd (s54) | exact QCd (c7)); exact rfl) | refine SX.Alloc TYok (h := ?_) | refine SX.Store TYok (h := ?_) | refine SX.Lit TYok (h := ?_) | refine SX.App TYok (h := ?_) | refine SX.Box TYok (h := ?_) | (apply S_appendd TYok; exact Ev.auto; exact Ev.auto; exact rfl; exact rfl; exact rfl; exact rfl; exact rfl; exact rfl; exact rfl; exact rfl; (intro r hr; first | (obtain ⟨_, _, rfl⟩ := List.mem_map.1 hr; rfl) | (obtain rfl := List.mem_singleton.1 hr; rfl)); (constructor <;> simp <;> omega); exact rfl) | refine SC ?_ | (apply S_isnil TYok; exact rfl; exact rfl; exact rfl; exact Ev.auto; intro bn hnil) | refine SG ?_ | (refine W.condA (ht := fun hb => ?_) (hf := fun hb => ?_) <;> (try simp at hb) <;> (try (exfalso; first | exact bA hb | omega))))
      all_goals first
        | exact Fin.retB rfl finB
        | exact Fin.ret ResL.auto
        | (exfalso; exact bB ‹E1 = 0 ∧ E2 = 0› ‹_›)
        | (exfalso; omega)
        | trace_state
    · obtain ⟨V7, e7, c, v7, ⟨p7, q7, p7', q7', rfl, c7, fin⟩⟩ := key (IntKind.i64.wrap (x.day + w)) (.inr (by rw [IntKind.wrap_i64]; unfold i64B at hx; omega))
      have finB : (true && (!decide (E6 = 0) || !decide (e7 = 0) || decide (x.amt < 0) || decide (c ≥ 0))) = true := finB_of fin
      clear key
      repeat' (first | (refine RG.weaken (Le.freeze1 (m := 81) rfl) ?_) | (refine W.purgeR [(9, [0, 1, 2, 3, 5, 10, 13, 14]), (13, [2, 3, 5, 10, 13, 16, 17, 18, 19, 20, 21, 22, 23]), (15, [2, 3, 5, 10, 13, 16, 17, 18, 19, 22, 23]), (19, [2, 3, 5, 10, 13]), (21, [2, 3, 10, 13, 26, 27])] rfl (by repeat (first | exact PN.nil | apply PN.po rfl | (apply PN.pa; exact rfl; (repeat (first | (apply NR.cons; exact rfl) | exact NR.nil rfl))) | apply PN.a rfl | apply PN.s rfl | apply PN.u rfl | apply PN.m rfl | apply PN.k rfl | apply PN.i rfl | apply PN.skip)) (by repeat (first | exact PB.nil | (apply PB.one; exact rfl; (focus (first | (dsimp only; done) | (dsimp only; exact rfl) | exact rfl)); (focus (first | (dsimp only; done) | (dsimp only; exact rfl) | exact rfl)); exact rfl; (repeat (first | (apply NR.cons; exact rfl) | exact NR.nil rfl)))  | apply PB.cons rfl)) ?_) | ((first | apply U_ | (apply Ug_; exact rfl; exact rfl) | (apply Ugq_; exact rfl; exact rfl)); (first | (apply Q_litD TYok; apply EvR.cons Ev.auto; (repeat (first | exact EvR.nil | apply EvR.cons Ev.auto)); exact rfl; exact rfl; exact rfl; exact rfl; exact rfl; exact rfl) | exact QX.B TYok | exact QX.Len TYok | exact QX.Idx TYok | exact QX.Ext TYok | exact QX.Conv TYok | exact QCd (v1) | exact QCd (v2) | exact QCd (v3) | exact QCd (v4) | exact QCd (v5) | exact QCd (v7) | exact QCd (ad) | exact QCd (s13) | exact QCd (s54) | exact QCd (c7)); exact rfl) | refine SX.Alloc TYok (h := ?_) | refine SX.Store TYok (h := ?_) | refine SX.Lit TYok (h := ?_) | refine SX.App TYok (h := ?_) | refine SX.Box TYok (h := ?_) | (apply S_appendd TYok; exact Ev.auto; exact Ev.auto; exact rfl; exact rfl; exact rfl; exact rfl; exact rfl; exact rfl; exact rfl; exact rfl; (intro r hr; first | (obtain ⟨_, _, rfl⟩ := List.mem_map.1 hr; rfl) | (obtain rfl := List.mem_singleton.1 hr; rfl)); (constructor <;> simp <;> omega); exact rfl) | refine SC ?_ | (apply S_isnil TYok; exact rfl; exact rfl; exact rfl; exact Ev.auto; intro bn hnil) | refine SG ?_ | (refine W.condA (ht := fun hb => ?_) (hf := fun hb => ?_) <;> (try simp at hb) <;> (try (exfalso; first | exact bA hb | omega))))
      all_goals first
        | exact Fin.retB rfl finB
        | exact Fin.ret ResL.auto
        | (exfalso; exact bB ‹E1 = 0 ∧ E2 = 0› ‹_›)
        | (exfalso; omega)
        | trace_state
end
end Go.Proofs.Ytgpcmgjdkefdjaa
end
section
namespace Go.Proofs.Ytgpcmgjdkefdjaa
open Lf Go
theorem int_of1 {n : Nat} {cs : List Cell} (h : TyL TY (n + 1) 3 cs) : ∃ i : Int, cs = Lf.encI i ∧ True := by
  obtain ⟨i, rfl, _⟩ : ∃ i, cs = [.int .i64 i] ∧ (Lit.int .i64 i).wf = true := h
  exact ⟨i, rfl, trivial⟩
structure BV where
  s : Int
  l : List Int
abbrev encBV (b : BV) : List Cell := [.int .i64 b.s, .sl (b.l.map Lf.encI)]
theorem big_of {n : Nat} {cs : List Cell} (h : TyL TY (n + 3) 29 cs) : ∃ b : BV, cs = encBV b ∧ b.l.length ≤ 9223372036854775807 := by
  obtain ⟨a1, b1, rfl, t1, a2, b2, rfl, t2, rfl⟩ : ∃ a1 b1, cs = a1 ++ b1 ∧ TyL TY (n + 2) 3 a1 ∧ ∃ a2 b2, b1 = a2 ++ b2 ∧ TyL TY (n + 2) 27 a2 ∧ b2 = [] := h
  obtain ⟨s, rfl, _⟩ : ∃ i, a1 = [.int .i64 i] ∧ (Lit.int .i64 i).wf = true := t1
  obtain ⟨rows, rfl, hl, h3⟩ : ∃ rows, a2 = [Cell.sl rows] ∧ rows.length ≤ maxLen ∧ ∀ r ∈ rows, TyL TY (n + 1) 3 r := t2
  obtain ⟨l, rfl, _⟩ := rows_map (f := Lf.encI) (p := fun _ => True) fun r hr => int_of1 (h3 r hr)
  exact ⟨⟨s, l⟩, rfl, by simp only [List.length_map] at hl; unfold maxLen at hl; exact hl⟩
theorem fq_of {n : Nat} {cs : List Cell} (h : TyL TY (n + 4) 31 cs) : ∃ f : Fq, cs = encF f ∧ FqOk f := by
  obtain ⟨a1, b1, rfl, t1, a2, b2, rfl, t2, rfl⟩ : ∃ a1 b1, cs = a1 ++ b1 ∧ TyL TY (n + 3) 29 a1 ∧ ∃ a2 b2, b1 = a2 ++ b2 ∧ TyL TY (n + 3) 29 a2 ∧ b2 = [] := h
  obtain ⟨x, rfl, hx⟩ := big_of t1
  obtain ⟨y, rfl, hy⟩ := big_of t2
  exact ⟨⟨x.s, x.l, y.s, y.l⟩, rfl, hx, hy⟩
theorem fqs_inq {c : Cell} (h : TyL TY 5 23 [c]) : ∃ l : List Fq, c = .sl (l.map encF) ∧ l.length ≤ 9223372036854775807 ∧ ∀ q ∈ l, FqOk q := by
  obtain ⟨rows, h1, hl, h3⟩ : ∃ rows, [c] = [Cell.sl rows] ∧ rows.length ≤ maxLen ∧ ∀ r ∈ rows, TyL TY 4 31 r := h
  obtain rfl := (List.cons.inj h1).1
  obtain ⟨l, rfl, hq⟩ := rows_map (f := encF) (p := fun f => FqOk f) fun r hr => fq_of (n := 0) (h3 r hr)
  exact ⟨l, rfl, by simp only [List.length_map] at hl; unfold maxLen at hl; exact hl, hq⟩
theorem flow_of {n : Nat} {cs : List Cell} (h : TyL TY (n + 2) 44 cs) : ∃ f : Fl, cs = encW f ∧ True := by
  obtain ⟨a1, b1, rfl, t1, a2, b2, rfl, t2, rfl⟩ : ∃ a1 b1, cs = a1 ++ b1 ∧ TyL TY (n + 1) 3 a1 ∧ ∃ a2 b2, b1 = a2 ++ b2 ∧ TyL TY (n + 1) 3 a2 ∧ b2 = [] := h
  obtain ⟨i1, rfl, _⟩ : ∃ i, a1 = [.int .i64 i] ∧ (Lit.int .i64 i).wf = true := t1
  obtain ⟨i2, rfl, _⟩ : ∃ i, a2 = [.int .i64 i] ∧ (Lit.int .i64 i).wf = true := t2
  exact ⟨⟨i1, i2⟩, rfl, trivial⟩
theorem flow_in {n : Nat} {cs : List Cell} (h : TyL TY (n + 2) 44 cs) : ∃ f : Fl, cs = encW f ∧ i64B f.day ∧ i64B f.amt := by
  obtain ⟨a1, b1, rfl, t1, a2, b2, rfl, t2, rfl⟩ : ∃ a1 b1, cs = a1 ++ b1 ∧ TyL TY (n + 1) 3 a1 ∧ ∃ a2 b2, b1 = a2 ++ b2 ∧ TyL TY (n + 1) 3 a2 ∧ b2 = [] := h
  obtain ⟨i1, rfl, w1⟩ : ∃ i, a1 = [.int .i64 i] ∧ (Lit.int .i64 i).wf = true := t1
  obtain ⟨i2, rfl, w2⟩ : ∃ i, a2 = [.int .i64 i] ∧ (Lit.int .i64 i).wf = true := t2
  exact ⟨⟨i1, i2⟩, rfl, bounds_i64 w1, bounds_i64 w2⟩
theorem flows_in {c : Cell} (h : TyL TY 4 22 [c]) : ∃ l : List Fl, c = .sl (l.map encW) ∧ l.length ≤ 9223372036854775807 := by
  obtain ⟨rows, h1, hl, h3⟩ : ∃ rows, [c] = [Cell.sl rows] ∧ rows.length ≤ maxLen ∧ ∀ r ∈ rows, TyL TY 3 44 r := h
  obtain rfl := (List.cons.inj h1).1
  obtain ⟨l, rfl, _⟩ := rows_map (f := encW) (p := fun _ => True) fun r hr => flow_of (n := 1) (h3 r hr)
  exact ⟨l, rfl, by simp only [List.length_map] at hl; unfold maxLen at hl; exact hl⟩
end Go.Proofs.Ytgpcmgjdkefdjaa
end
section
namespace Go.Proofs.Ytgpcmgjdkefdjaa
open Lf Go Go.ChangeShapes Go.WideShapes Go.ChangeAt Go.RowKit
namespace SumsRow
theorem own : ownKnob Try.prog.godebug = none := by kernel_rfl
theorem laidOut : laidOutB Try.prog = true := by kernel_rfl
set_option maxRecDepth 100000 in
theorem lifted (os : Os) (started : os.Started) (H : Type) (enc : TypeId × Value → H) :
    ReturnsInHanded {} Try.checked os 5 .any (Rows.priceSumsSpec.pre6 enc Try.prog Try.f5 Rows.priceSumsRow.domain false) (Rows.priceSumsSpec.post enc Try.prog Try.f5 false true false false) := by
  refine returnsInHanded_of_change (C := Try.checked) own started (by kernel_rfl) Try.func5
    (ChangeSpec.witness6 (enc := enc) (C := Try.checked) false ⟨#[], #[.slice none 0 0, .slice none 0 0, .int .i64 0, .slice none 0 0, .agg #[.int .i64 0, .int .i64 0], .int .u16 0], []⟩ 8 (by kernel_rfl) (by kernel_rfl) (by kernel_rfl) (by kernel_rfl)) ?_
  intro W base args ds gs before hval0 hW hcnd _
  have hval : ∀ (j : Nat) t v, Try.f5.params[j]? = some t → args[j]? = some v → Value.okWide Try.prog W .any base t v := hval0
  have hW' := hW
  obtain ⟨p, q, hA0, hV, rfl, hfz, hnd⟩ := hW
  have hA : DataW.TrodAll enc Try.prog W 0 (fun _ => true) true Try.f5.params.toList args.toList ds p := hA0
  rw [Try.params5] at hA hval
  obtain ⟨v0, vs0, d0, ds0, p0, q0, hargs, rfl, rfl, h0, r0⟩ := trodAll_cons hA
  obtain ⟨v1, vs1, d1, ds1, p1, q1, rfl, rfl, rfl, h1, r1⟩ := trodAll_cons r0
  obtain ⟨v2, vs2, d2, ds2, p2, q2, rfl, rfl, rfl, h2, r2⟩ := trodAll_cons r1
  obtain ⟨v3, vs3, d3, ds3, p3, q3, rfl, rfl, rfl, h3, r3⟩ := trodAll_cons r2
  obtain ⟨v4, vs4, d4, ds4, p4, q4, rfl, rfl, rfl, h4, r4⟩ := trodAll_cons r3
  obtain ⟨v5, vs5, d5, ds5, p5, q5, rfl, rfl, rfl, h5, r5⟩ := trodAll_cons r4
  obtain ⟨rfl, rfl, rfl⟩ := trodAll_nil r5
  obtain rfl : args = #[v0, v1, v2, v3, v4, v5] := by cases args; simp_all
  obtain ⟨rfl, rfl⟩ := trodVars_none hV
  have k0 := h0
  have lt0 : ∀ x ∈ p0, x.block < W.heap.size := by obtain ⟨m, hm⟩ := k0; exact DataW.trod_lt m _ _ _ hm
  obtain ⟨c0, rel0, ty0⟩ := read_slice TYok 4 Try.underlying22 (by kernel_rfl) (hval 0 22 v0 rfl rfl) h0
  obtain ⟨a0, rfl, w0⟩ := flows_in ty0
  have k1 := h1
  have lt1 : ∀ x ∈ p1, x.block < W.heap.size := by obtain ⟨m, hm⟩ := k1; exact DataW.trod_lt m _ _ _ hm
  obtain ⟨c1, rel1, ty1⟩ := read_slice TYok 4 Try.underlying22 (by kernel_rfl) (hval 1 22 v1 rfl rfl) h1
  obtain ⟨a1, rfl, w1⟩ := flows_in ty1
  obtain ⟨a2, rfl, rfl, rfl, w2⟩ := open_int Try.underlying3 (hval 2 3 v2 rfl rfl) h2
  have k3 := h3
  have lt3 : ∀ x ∈ p3, x.block < W.heap.size := by obtain ⟨m, hm⟩ := k3; exact DataW.trod_lt m _ _ _ hm
  obtain ⟨c3, rel3, ty3⟩ := read_slice TYok 5 Try.underlying23 (by kernel_rfl) (hval 3 23 v3 rfl rfl) h3
  obtain ⟨a3, rfl, w3⟩ := fqs_inq ty3
  have k4 := h4
  have lt4 : ∀ x ∈ p4, x.block < W.heap.size := by obtain ⟨m, hm⟩ := k4; exact DataW.trod_lt m _ _ _ hm
  obtain ⟨c4, rel4, ty4⟩ := read_struct TYok 4 Try.underlying44 (by kernel_rfl) (hval 4 44 v4 rfl rfl) h4
  obtain ⟨a4, rfl, w4⟩ := flow_in ty4
  obtain ⟨a5, rfl, rfl, rfl, w5⟩ := open_int Try.underlying48 (hval 5 48 v5 rfl rfl) h5
  clear hA0 hval0
  have hc := (law_sums a0 a1 a2 a3 a4 a5 (by have q := w5; have h1 : IntKind.u16.min = 0 := rfl; have h2 : IntKind.u16.max = 65535 := rfl; simp [Lit.wf] at q; omega) w4.1 w0 w1 w3.1 w3.2).calls (allΦ W) W #[v0, v1, .int .i64 a2, v3, v4, .int .u16 a5] (fits_all W)
    (ArgsRel.of (ArgsL.cons rel0 (ArgsL.cons rel1 (ArgsL.cons (Rel.int _ _) (ArgsL.cons rel3 (ArgsL.cons rel4 (ArgsL.cons (Rel.int _ _) ArgsL.nil)))))))
  refine hc.mono fun e W' ⟨v, Φ', he, hv, _, _, _, bel⟩ => ?_
  subst he
  obtain rfl : v = .bool true := AVRel.bool hv
  exact ⟨_, rfl, _, _, _, [], _, [], hW', trodAll_mk1 (shut_bool Try.underlying4 _), (trodAll_cons_mk (Below.trod laidOut (by kernel_rfl) (of_decide_eq_true (by kernel_rfl)) k0 bel lt0) (trodAll_cons_mk (Below.trod laidOut (by kernel_rfl) (of_decide_eq_true (by kernel_rfl)) k1 bel lt1) (trodAll_cons_mk (shut_int Try.underlying3 w2) (trodAll_cons_mk (Below.trod laidOut (by kernel_rfl) (of_decide_eq_true (by kernel_rfl)) k3 bel lt3) (trodAll_cons_mk (Below.trod laidOut (by kernel_rfl) (of_decide_eq_true (by kernel_rfl)) k4 bel lt4) (trodAll_cons_mk (shut_int Try.underlying48 w5) trodAll_mk0)))))), rfl, bel.frame _, fun h => by cases h⟩
theorem over : Rows.priceSumsRow.holds Try.pinned (OpenSpec.ofChange Rows.priceSumsSpec) :=
  OpenClaim.holds_of_wide 5 Try.f5 rfl rfl rfl rfl rfl rfl rfl ⟨rfl, rfl, rfl, rfl, rfl⟩ rfl rfl rfl rfl rfl (by kernel_rfl) Try.func5 (by kernel_rfl)
    (of_decide_eq_true (by kernel_rfl)) (by unfold Func.isWrapper; first | (rw [if_pos (by decide +kernel)]; kernel_rfl) | (rw [if_neg (by decide +kernel)]; exact ⟨rfl, rfl⟩))
    (fun os started H enc _ => lifted os started H enc)
end SumsRow
theorem priceSums_proved : Rows.PriceSumsSaid := SumsRow.over
end Go.Proofs.Ytgpcmgjdkefdjaa
end
