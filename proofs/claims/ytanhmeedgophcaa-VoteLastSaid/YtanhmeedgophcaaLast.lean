/-
  VoteLast: only the last vote of a seat until the day counts.
-/
import Derived.Test.YtanhmeedgophcaaUntil
set_option linter.unusedVariables false
set_option linter.unusedSimpArgs false
set_option maxHeartbeats 8000000
namespace Go.Proofs.Ytanhmeedgophcaa
open Lf Go
/-- the place of the seat's last vote until the day, or -1 -/
def lastX (vs : List Vote) (s d : Int) : Nat → Int
  | 0 => -1
  | k + 1 => if (nth vs k).seat = s ∧ (nth vs k).day ≤ d then k else lastX vs s d k
def someF (vs : List Vote) (s m : Int) : Nat → List Vote
  | 0 => []
  | k + 1 => someF vs s m k ++ if (nth vs k).seat ≠ s ∨ (k : Int) ≥ m then [nth vs k] else []
def noneF (vs : List Vote) (s : Int) : Nat → List Vote
  | 0 => []
  | k + 1 => noneF vs s k ++ if (nth vs k).seat ≠ s then [nth vs k] else []
def twiceF (vs : List Vote) (m : Int) : Nat → List Vote
  | 0 => []
  | k + 1 => twiceF vs m k ++ if (k : Int) = m then [nth vs k, nth vs k] else [nth vs k]
theorem lastX_spec {vs : List Vote} {s d : Int} : ∀ k, k ≤ vs.length → -1 ≤ lastX vs s d k ∧ lastX vs s d k < k ∧ (0 ≤ lastX vs s d k → (nth vs (lastX vs s d k).toNat).seat = s ∧ (nth vs (lastX vs s d k).toNat).day ≤ d) ∧ ∀ j : Nat, lastX vs s d k < j → j < k → ¬ ((nth vs j).seat = s ∧ (nth vs j).day ≤ d)
  | 0, _ => by simp [lastX]
  | k + 1, hk => by
    obtain ⟨h1, h2, h3, h4⟩ := lastX_spec (vs := vs) (s := s) (d := d) k (by omega)
    rw [lastX]
    split
    · rename_i hc
      refine ⟨by omega, by omega, fun _ => by simpa using hc, fun j hj hj' => by omega⟩
    · rename_i hc
      refine ⟨h1, by omega, h3, fun j hj hj' => ?_⟩
      by_cases he : j = k
      · subst he; exact hc
      · exact h4 j hj (by omega)
theorem lens {vs : List Vote} {s m : Int} : ∀ k, (someF vs s m k).length ≤ k ∧ (noneF vs s k).length ≤ k ∧ (twiceF vs m k).length ≤ 2 * k
  | 0 => by simp [someF, noneF, twiceF]
  | k + 1 => by
    have h := lens (vs := vs) (s := s) (m := m) k
    rw [someF, noneF, twiceF]
    refine ⟨?_, ?_, ?_⟩ <;> split <;> simp <;> omega
theorem twice_len {vs : List Vote} {m : Int} : ∀ k, (twiceF vs m k).length ≤ k + (if m < k then 1 else 0)
  | 0 => by simp [twiceF]
  | k + 1 => by
    have h := twice_len (vs := vs) (m := m) k
    rw [twiceF]
    split
    · rename_i he
      simp; rw [if_neg (by omega)] at h; rw [if_pos (by omega)]; omega
    · simp; split at h <;> split <;> omega
/-- what a seat's votes come to, list by list -/
theorem noneF_last {vs : List Vote} {s d : Int} {i : Int} : ∀ k, k ≤ vs.length → lastB i d false (noneF vs s k) = if i = s then false else lastB i d false (vs.take k)
  | 0, _ => by simp [noneF, lastB]
  | k + 1, hk => by
    have ih := noneF_last (vs := vs) (s := s) (d := d) (i := i) k (by omega)
    rw [noneF, take_nth (show k < vs.length by omega), lastB_append, lastB_append, ih]
    by_cases he : i = s
    · simp only [he, if_true]
      split
      · rename_i hs; simp [lastB, hs]
      · rfl
    · rw [if_neg he, if_neg he]
      split
      · rfl
      · rename_i hs
        have : (nth vs k).seat ≠ i := by simp at hs; omega
        simp [lastB, this]
theorem someF_other {vs : List Vote} {s m d : Int} {i : Int} (hi : i ≠ s) : ∀ k, k ≤ vs.length → lastB i d false (someF vs s m k) = lastB i d false (vs.take k)
  | 0, _ => by simp [someF]
  | k + 1, hk => by
    have ih := someF_other (vs := vs) (m := m) (d := d) hi k (by omega)
    rw [someF, take_nth (show k < vs.length by omega), lastB_append, lastB_append, ih]
    split
    · rfl
    · rename_i hs
      have : (nth vs k).seat ≠ i := by simp at hs; omega
      simp [lastB, this]
theorem someF_own {vs : List Vote} {s m d : Int} (hm : 0 ≤ m → (nth vs m.toNat).seat = s ∧ (nth vs m.toNat).day ≤ d) : ∀ k, k ≤ vs.length → m < k → lastB s d false (someF vs s m k) = lastB s d false (vs.take k)
  | 0, _, h => by simp [someF]
  | k + 1, hk, h => by
    rw [someF, take_nth (show k < vs.length by omega), lastB_append, lastB_append]
    by_cases hc : m < k
    · rw [someF_own hm k (by omega) hc, if_pos (by omega)]
    · have hmk : m = k := by omega
      have := hm (by omega)
      rw [show m.toNat = k by omega] at this
      rw [if_pos (by omega)]
      simp [lastB, this]
theorem twiceF_last {vs : List Vote} {m d : Int} {i : Int} : ∀ k, k ≤ vs.length → lastB i d false (twiceF vs m k) = lastB i d false (vs.take k)
  | 0, _ => by simp [twiceF]
  | k + 1, hk => by
    rw [twiceF, take_nth (show k < vs.length by omega), lastB_append, lastB_append, twiceF_last k (by omega)]
    split
    · simp only [lastB]
      split <;> rfl
    · rfl
theorem lastB_at {vs : List Vote} {s d : Int} : ∀ k, k ≤ vs.length → lastB s d false (vs.take k) = if 0 ≤ lastX vs s d k then (nth vs (lastX vs s d k).toNat).yes else false
  | 0, _ => by simp [lastX, lastB]
  | k + 1, hk => by
    rw [take_nth (show k < vs.length by omega), lastB_append, lastB_at k (by omega), lastX]
    by_cases hc : (nth vs k).seat = s ∧ (nth vs k).day ≤ d
    · rw [if_pos hc]; simp [lastB, hc]
    · rw [if_neg hc]; simp [lastB, hc]
/-- days that do not descend: a vote more at the end -/
def endD : Int → List Vote → Int
  | d, [] => d
  | _, v :: r => endD v.day r
theorem vsOk_append {L : Int} : ∀ {l m : List Vote} {d : Int}, vsOk L d (l ++ m) = (vsOk L d l && vsOk L (endD d l) m)
  | [], m, d => by simp [vsOk, endD]
  | v :: r, m, d => by simp only [List.cons_append, vsOk, endD]; rw [vsOk_append]; simp [Bool.and_assoc]
theorem endD_append : ∀ {l m : List Vote} {d : Int}, endD d (l ++ m) = endD (endD d l) m
  | [], m, d => rfl
  | v :: r, m, d => by simp only [List.cons_append, endD]; exact endD_append
def stepOk (L e : Int) (v : Vote) : Prop := 0 ≤ v.seat ∧ v.seat < L ∧ e ≤ v.day ∧ v.day ≤ 200000
theorem ok_snoc {L : Int} {l : List Vote} {v : Vote} : vsOk L 0 (l ++ [v]) = true ↔ vsOk L 0 l = true ∧ stepOk L (endD 0 l) v := by
  rw [vsOk_append]; simp [vsOk, stepOk, and_assoc]
theorem takes {L : Int} {vs : List Vote} (h : vsOk L 0 vs = true) {k : Nat} (hk : k < vs.length) : stepOk L (endD 0 (vs.take k)) (nth vs k) := by
  have h1 : vs = vs.take (k + 1) ++ vs.drop (k + 1) := (List.take_append_drop _ _).symm
  rw [h1, vsOk_append, Bool.and_eq_true] at h
  have h2 := h.1
  rw [take_nth hk] at h2
  exact (ok_snoc.1 h2).2
theorem endD_snoc {l : List Vote} {v : Vote} {d : Int} : endD d (l ++ [v]) = v.day := by rw [endD_append]; rfl
theorem threeOk {L : Int} {vs : List Vote} {s m : Int} (h : vsOk L 0 vs = true) : ∀ k, k ≤ vs.length →
    (vsOk L 0 (someF vs s m k) = true ∧ endD 0 (someF vs s m k) ≤ endD 0 (vs.take k)) ∧ (vsOk L 0 (noneF vs s k) = true ∧ endD 0 (noneF vs s k) ≤ endD 0 (vs.take k)) ∧ (vsOk L 0 (twiceF vs m k) = true ∧ endD 0 (twiceF vs m k) ≤ endD 0 (vs.take k))
  | 0, _ => by simp [someF, noneF, twiceF, vsOk]
  | k + 1, hk => by
    obtain ⟨⟨a1, a2⟩, ⟨b1, b2⟩, c1, c2⟩ := threeOk (s := s) (m := m) h k (by omega)
    have ht := takes h (show k < vs.length by omega)
    have key : ∀ l, vsOk L 0 l = true → endD 0 l ≤ endD 0 (vs.take k) → vsOk L 0 (l ++ [nth vs k]) = true := fun l h1 h2 => ok_snoc.2 ⟨h1, ht.1, ht.2.1, by have := ht.2.2.1; omega, ht.2.2.2⟩
    have hle : endD 0 (vs.take k) ≤ (nth vs k).day := ht.2.2.1
    rw [someF, noneF, twiceF, take_nth (show k < vs.length by omega), endD_snoc]
    refine ⟨?_, ?_, ?_⟩
    · split
      · exact ⟨key _ a1 a2, by rw [endD_snoc]; exact Int.le_refl _⟩
      · rw [List.append_nil]; exact ⟨a1, by omega⟩
    · split
      · exact ⟨key _ b1 b2, by rw [endD_snoc]; exact Int.le_refl _⟩
      · rw [List.append_nil]; exact ⟨b1, by omega⟩
    · split
      · have e : twiceF vs m k ++ [nth vs k, nth vs k] = (twiceF vs m k ++ [nth vs k]) ++ [nth vs k] := by simp
        rw [e]
        refine ⟨ok_snoc.2 ⟨key _ c1 c2, ht.1, ht.2.1, by rw [endD_snoc]; exact Int.le_refl _, ht.2.2.2⟩, by rw [endD_snoc]; exact Int.le_refl _⟩
      · exact ⟨key _ c1 c2, by rw [endD_snoc]; exact Int.le_refl _⟩
theorem yesS_none {us : List Int} {vs ns : List Vote} {s d : Int} (h : ∀ i : Int, i ≠ s → lastB i d false ns = lastB i d false vs) (hs : lastB s d false ns = false) (hs0 : 0 ≤ s) :
    ∀ k : Nat, yesS us vs d k = yesS us ns d k + if s < k ∧ lastB s d false vs = true then nth us s.toNat else 0
  | 0 => by simp [yesS]; omega
  | k + 1 => by
    rw [yesS, yesS, yesS_none h hs hs0 k]
    by_cases he : s = k
    · have e1 : lastB (k : Int) d false ns = false := by rw [← he]; exact hs
      have e2 : lastB (k : Int) d false vs = lastB s d false vs := by rw [he]
      have e3 : s.toNat = k := by omega
      rw [e1, e2, e3]
      cases lastB s d false vs with
      | false => simp
      | true => rw [if_neg (fun hc => absurd hc.1 (by omega)), if_pos rfl, if_neg (by simp), if_pos ⟨by omega, rfl⟩]; try omega
    · have hc : (s < (k : Int) ∧ lastB s d false vs = true) ↔ (s < ((k + 1 : Nat) : Int) ∧ lastB s d false vs = true) := ⟨fun ⟨a, b⟩ => ⟨by omega, b⟩, fun ⟨a, b⟩ => ⟨by omega, b⟩⟩
      rw [h k (by omega)]
      simp only [hc]
      omega

/-! ### the walk -/
theorem some_right {us : List Int} {vs : List Vote} {s m : Int} (h : rightF us vs = true) (hl : vs.length ≤ 60) : rightF us (someF vs s m vs.length) = true ∧ rightF us (noneF vs s vs.length) = true ∧ rightF us (twiceF vs m vs.length) = true := by
  have h1 := rightF_iff.1 h
  have h2 := threeOk (s := s) (m := m) h1.2.1 vs.length (Nat.le_refl _)
  have h3 := lens (vs := vs) (s := s) (m := m) vs.length
  exact ⟨rightF_iff.2 ⟨h1.1, h2.1.1, h1.2.2.1, h1.2.2.2.1, by omega⟩, rightF_iff.2 ⟨h1.1, h2.2.1.1, h1.2.2.1, h1.2.2.2.1, by omega⟩, rightF_iff.2 ⟨h1.1, h2.2.2.1, h1.2.2.1, h1.2.2.2.1, by omega⟩⟩
attribute [local irreducible] PureOp EffOp Ev RG W Then InBlock Lf.Fin nth App InitE Pick SubE SubF SubG EvL EvD EvP EvR ResL Lex SubR SubBR

theorem last4_ok (us : List Int) (vs : List Vote) (d q : Int) (hq : 0 ≤ q ∧ q ≤ 255) : ACalls Try.prog 4 [slI us, slV vs, cI d, .one (.int .u8 q)] (.pv (cB true)) := by
  by_cases hl : us.length ≤ 40 ∧ vs.length ≤ 60 ∧ rightF us vs = true ∧ us.length ≠ 0
  · obtain ⟨hl1, hl2, hr, hn0⟩ := hl
    have hu : us.length ≤ 1000000 := by omega
    have hv : vs.length ≤ 1000000 := by omega
    have hri := rightF_iff.1 hr
    obtain ⟨s, hs⟩ : ∃ s, s = q % (us.length : Int) := ⟨_, rfl⟩
    have hs0 : 0 ≤ s ∧ s < us.length := by rw [hs]; exact ⟨Int.emod_nonneg _ (by omega), Int.emod_lt_of_pos _ (by omega)⟩
    obtain ⟨m, hm⟩ : ∃ m, m = lastX vs s d vs.length := ⟨_, rfl⟩
    have hX := lastX_spec (vs := vs) (s := s) (d := d) vs.length (Nat.le_refl _)
    rw [← hm] at hX
    have hR := some_right (s := s) (m := m) hr hl2
    have hlen := lens (vs := vs) (s := s) (m := m) vs.length
    have T0 := tally_ok us vs d hu hv
    have T1 := tally_ok us (someF vs s m vs.length) d hu (by omega)
    have T2 := tally_ok us (noneF vs s vs.length) d hu (by omega)
    have T3 := tally_ok us (twiceF vs m vs.length) d hu (by omega)
    have tk : vs.take vs.length = vs := List.take_length
    have y1 : yesS us (someF vs s m vs.length) d us.length = yesS us vs d us.length := yesS_congr fun i _ => by
      by_cases hi : (i : Int) = s
      · rw [hi, someF_own hX.2.2.1 vs.length (Nat.le_refl _) hX.2.1, tk]
      · rw [someF_other hi vs.length (Nat.le_refl _), tk]
    have y3 : yesS us (twiceF vs m vs.length) d us.length = yesS us vs d us.length := yesS_congr fun i _ => by
      rw [twiceF_last vs.length (Nat.le_refl _), tk]
    have y2 := yesS_none (us := us) (vs := vs) (ns := noneF vs s vs.length) (s := s) (d := d)
      (fun i hi => by rw [noneF_last (d := d) (i := i) vs.length (Nat.le_refl _), if_neg hi, tk]) (by rw [noneF_last (d := d) (i := s) vs.length (Nat.le_refl _), if_pos rfl]) hs0.1 us.length
    have hat := lastB_at (vs := vs) (s := s) (d := d) vs.length (Nat.le_refl _)
    rw [tk, ← hm] at hat
    have hbd := sumS_bound hri.1 vs d us.length (Nat.le_refl _)
    have hus : 0 ≤ nth us s.toNat ∧ nth us s.toNat ≤ 1000000000 := usOk_nth hri.1 (by omega)
    have hbn := sumS_bound hri.1 (noneF vs s vs.length) d us.length (Nat.le_refl _)
    rw [tallyF_right hr] at T0
    rw [tallyF_right hR.1, y1] at T1
    rw [tallyF_right hR.2.1] at T2
    rw [tallyF_right hR.2.2, y3] at T3
    refine ACalls.of_W (qs := [cB true]) [8] 218 Try.func4 (by kernel_rfl) rfl rfl rfl fun G => ?_
    apply W.init (by repeat (first | exact InitE.nil | apply InitE.c0 | apply InitE.c1 | apply InitE.c2 | apply InitE.c3 | apply InitE.c4 | apply InitE.c5 | apply InitE.c6 | apply InitE.c7 | apply InitE.c8 | apply InitE.c9 | apply InitE.c10 | apply InitE.c11))
    have RR := rright_ok us vs
    rw [hr] at RR
    repeat' (first
      | apply RG.nil
      | apply Lex.nil
      | apply Then.n
      | apply Then.r
      | apply Then.x
      | apply InBlock.n
      | apply InBlock.r
      | apply InBlock.hit
      | (apply InBlock.miss; exact rfl)
      | apply W.seq
      | apply W.region
      | apply W.block
      | apply W.skip
      | apply W.ret
      | apply W.exit
      | ((first | apply U_ | (apply Ug_; exact rfl; exact rfl) | (apply Ugq_; exact rfl; exact rfl) | apply Lex.u | (apply Lex.g; exact rfl; exact rfl) | (apply Lex.gq; exact rfl; exact rfl)); (first
    | (apply Q_move; (refine Ev.of rfl ?_; first | exact fun _ => trivial | exact id | exact And.right | exact And.left | exact fun h => h.1.2 | exact fun h => h.1.1 | exact fun h => h.1.1.1 | exact fun h => h.1.1.2))
    | (apply Q_assign; (refine Ev.of rfl ?_; first | exact fun _ => trivial | exact id | exact And.right | exact And.left | exact fun h => h.1.2 | exact fun h => h.1.1 | exact fun h => h.1.1.1 | exact fun h => h.1.1.2))
    | (apply Q_fieldp TYok; (refine Ev.of rfl ?_; first | exact fun _ => trivial | exact id | exact And.right | exact And.left | exact fun h => h.1.2 | exact fun h => h.1.1 | exact fun h => h.1.1.1 | exact fun h => h.1.1.2); exact rfl; exact rfl; exact rfl; exact rfl; exact rfl)
    | (apply Q_field TYok; (refine Ev.of rfl ?_; first | exact fun _ => trivial | exact id | exact And.right | exact And.left | exact fun h => h.1.2 | exact fun h => h.1.1 | exact fun h => h.1.1.1 | exact fun h => h.1.1.2); exact rfl; exact rfl; exact rfl; exact rfl; exact rfl)
    | (apply Q_loadp TYok; exact rfl; exact rfl; (refine Ev.of rfl ?_; first | exact fun _ => trivial | exact id | exact And.right | exact And.left | exact fun h => h.1.2 | exact fun h => h.1.1 | exact fun h => h.1.1.1 | exact fun h => h.1.1.2); exact rfl)
    | (apply Q_load TYok; exact rfl; exact rfl; (refine Ev.of rfl ?_; first | exact fun _ => trivial | exact id | exact And.right | exact And.left | exact fun h => h.1.2 | exact fun h => h.1.1 | exact fun h => h.1.1.1 | exact fun h => h.1.1.2); exact rfl; exact rfl; exact rfl)
    | (apply Q_loadm TYok; exact rfl; exact rfl; (refine Ev.of rfl ?_; first | exact fun _ => trivial | exact id | exact And.right | exact And.left | exact fun h => h.1.2 | exact fun h => h.1.1 | exact fun h => h.1.1.1 | exact fun h => h.1.1.2); exact rfl; (intro hg; first | omega | (simp; omega) | (simp at hg; simp; omega)); exact rfl; infer_instance)
    | (apply Q_loadpa TYok; exact rfl; exact rfl; (refine Ev.of rfl ?_; first | exact fun _ => trivial | exact id | exact And.right | exact And.left | exact fun h => h.1.2 | exact fun h => h.1.1 | exact fun h => h.1.1.1 | exact fun h => h.1.1.2); exact rfl)
    | (apply Q_loada TYok; exact rfl; exact rfl; (refine Ev.of rfl ?_; first | exact fun _ => trivial | exact id | exact And.right | exact And.left | exact fun h => h.1.2 | exact fun h => h.1.1 | exact fun h => h.1.1.1 | exact fun h => h.1.1.2); exact rfl; exact rfl; exact rfl)
    | (apply Q_loadma TYok; exact rfl; exact rfl; (refine Ev.of rfl ?_; first | exact fun _ => trivial | exact id | exact And.right | exact And.left | exact fun h => h.1.2 | exact fun h => h.1.1 | exact fun h => h.1.1.1 | exact fun h => h.1.1.2); exact rfl; (intro hg; first | omega | (simp; omega) | (simp at hg; simp; omega)); exact rfl; infer_instance)
    | (apply Q_add; (refine Ev.of rfl ?_; first | exact fun _ => trivial | exact id | exact And.right | exact And.left | exact fun h => h.1.2 | exact fun h => h.1.1 | exact fun h => h.1.1.1 | exact fun h => h.1.1.2); (refine Ev.of rfl ?_; first | exact fun _ => trivial | exact id | exact And.right | exact And.left | exact fun h => h.1.2 | exact fun h => h.1.1 | exact fun h => h.1.1.1 | exact fun h => h.1.1.2); (first | omega | (constructor <;> omega)))
    | (apply Q_sub; (refine Ev.of rfl ?_; first | exact fun _ => trivial | exact id | exact And.right | exact And.left | exact fun h => h.1.2 | exact fun h => h.1.1 | exact fun h => h.1.1.1 | exact fun h => h.1.1.2); (refine Ev.of rfl ?_; first | exact fun _ => trivial | exact id | exact And.right | exact And.left | exact fun h => h.1.2 | exact fun h => h.1.1 | exact fun h => h.1.1.1 | exact fun h => h.1.1.2); (first | omega | (constructor <;> omega)))
    | (apply Q_mul; (refine Ev.of rfl ?_; first | exact fun _ => trivial | exact id | exact And.right | exact And.left | exact fun h => h.1.2 | exact fun h => h.1.1 | exact fun h => h.1.1.1 | exact fun h => h.1.1.2); (refine Ev.of rfl ?_; first | exact fun _ => trivial | exact id | exact And.right | exact And.left | exact fun h => h.1.2 | exact fun h => h.1.1 | exact fun h => h.1.1.1 | exact fun h => h.1.1.2); (first | omega | (constructor <;> omega)))
    | (apply Q_quoN; (refine Ev.of rfl ?_; first | exact fun _ => trivial | exact id | exact And.right | exact And.left | exact fun h => h.1.2 | exact fun h => h.1.1 | exact fun h => h.1.1.1 | exact fun h => h.1.1.2); (refine Ev.of rfl ?_; first | exact fun _ => trivial | exact id | exact And.right | exact And.left | exact fun h => h.1.2 | exact fun h => h.1.1 | exact fun h => h.1.1.1 | exact fun h => h.1.1.2); (first | omega | (constructor <;> omega)))
    | (apply Q_remN; (refine Ev.of rfl ?_; first | exact fun _ => trivial | exact id | exact And.right | exact And.left | exact fun h => h.1.2 | exact fun h => h.1.1 | exact fun h => h.1.1.1 | exact fun h => h.1.1.2); (refine Ev.of rfl ?_; first | exact fun _ => trivial | exact id | exact And.right | exact And.left | exact fun h => h.1.2 | exact fun h => h.1.1 | exact fun h => h.1.1.1 | exact fun h => h.1.1.2); (first | omega | (constructor <;> omega)))
    | (apply Q_bin; (refine Ev.of rfl ?_; first | exact fun _ => trivial | exact id | exact And.right | exact And.left | exact fun h => h.1.2 | exact fun h => h.1.1 | exact fun h => h.1.1.1 | exact fun h => h.1.1.2); (refine Ev.of rfl ?_; first | exact fun _ => trivial | exact id | exact And.right | exact And.left | exact fun h => h.1.2 | exact fun h => h.1.1 | exact fun h => h.1.1.1 | exact fun h => h.1.1.2); exact rfl)
    | (apply Q_or; (refine Ev.of rfl ?_; first | exact fun _ => trivial | exact id | exact And.right | exact And.left | exact fun h => h.1.2 | exact fun h => h.1.1 | exact fun h => h.1.1.1 | exact fun h => h.1.1.2); (refine Ev.of rfl ?_; first | exact fun _ => trivial | exact id | exact And.right | exact And.left | exact fun h => h.1.2 | exact fun h => h.1.1 | exact fun h => h.1.1.1 | exact fun h => h.1.1.2))
    | (apply Q_and; (refine Ev.of rfl ?_; first | exact fun _ => trivial | exact id | exact And.right | exact And.left | exact fun h => h.1.2 | exact fun h => h.1.1 | exact fun h => h.1.1.1 | exact fun h => h.1.1.2); (refine Ev.of rfl ?_; first | exact fun _ => trivial | exact id | exact And.right | exact And.left | exact fun h => h.1.2 | exact fun h => h.1.1 | exact fun h => h.1.1.1 | exact fun h => h.1.1.2))
    | (apply Q_not; (refine Ev.of rfl ?_; first | exact fun _ => trivial | exact id | exact And.right | exact And.left | exact fun h => h.1.2 | exact fun h => h.1.1 | exact fun h => h.1.1.1 | exact fun h => h.1.1.2))
    | (apply Q_max; (refine Ev.of rfl ?_; first | exact fun _ => trivial | exact id | exact And.right | exact And.left | exact fun h => h.1.2 | exact fun h => h.1.1 | exact fun h => h.1.1.1 | exact fun h => h.1.1.2); (refine Ev.of rfl ?_; first | exact fun _ => trivial | exact id | exact And.right | exact And.left | exact fun h => h.1.2 | exact fun h => h.1.1 | exact fun h => h.1.1.1 | exact fun h => h.1.1.2))
    | (apply Q_min; (refine Ev.of rfl ?_; first | exact fun _ => trivial | exact id | exact And.right | exact And.left | exact fun h => h.1.2 | exact fun h => h.1.1 | exact fun h => h.1.1.1 | exact fun h => h.1.1.2); (refine Ev.of rfl ?_; first | exact fun _ => trivial | exact id | exact And.right | exact And.left | exact fun h => h.1.2 | exact fun h => h.1.1 | exact fun h => h.1.1.1 | exact fun h => h.1.1.2))
    | (apply Q_lenm TYok; (refine Ev.of rfl ?_; first | exact fun _ => trivial | exact id | exact And.right | exact And.left | exact fun h => h.1.2 | exact fun h => h.1.1 | exact fun h => h.1.1.1 | exact fun h => h.1.1.2); exact rfl; exact rfl)
    | (apply Q_lend TYok; (refine Ev.of rfl ?_; first | exact fun _ => trivial | exact id | exact And.right | exact And.left | exact fun h => h.1.2 | exact fun h => h.1.1 | exact fun h => h.1.1.1 | exact fun h => h.1.1.2); exact rfl; exact rfl)
    | (apply Q_lenom TYok; (refine Ev.of rfl ?_; first | exact fun _ => trivial | exact id | exact And.right | exact And.left | exact fun h => h.1.2 | exact fun h => h.1.1 | exact fun h => h.1.1.1 | exact fun h => h.1.1.2); exact rfl; exact rfl; exact rfl)
    | (apply Q_len TYok; (refine Ev.of rfl ?_; first | exact fun _ => trivial | exact id | exact And.right | exact And.left | exact fun h => h.1.2 | exact fun h => h.1.1 | exact fun h => h.1.1.1 | exact fun h => h.1.1.2); exact rfl; exact rfl; exact rfl)
    | (apply Q_len0 TYok; (refine Ev.of rfl ?_; first | exact fun _ => trivial | exact id | exact And.right | exact And.left | exact fun h => h.1.2 | exact fun h => h.1.1 | exact fun h => h.1.1.1 | exact fun h => h.1.1.2); exact rfl; exact rfl)
    | (apply Q_lens TYok; (refine Ev.of rfl ?_; first | exact fun _ => trivial | exact id | exact And.right | exact And.left | exact fun h => h.1.2 | exact fun h => h.1.1 | exact fun h => h.1.1.1 | exact fun h => h.1.1.2); exact rfl; exact rfl)
    | (apply Q_indexd TYok; (refine Ev.of rfl ?_; first | exact fun _ => trivial | exact id | exact And.right | exact And.left | exact fun h => h.1.2 | exact fun h => h.1.1 | exact fun h => h.1.1.1 | exact fun h => h.1.1.2); (refine Ev.of rfl ?_; first | exact fun _ => trivial | exact id | exact And.right | exact And.left | exact fun h => h.1.2 | exact fun h => h.1.1 | exact fun h => h.1.1.1 | exact fun h => h.1.1.2); exact rfl; exact rfl; exact rfl; (intro hg; first | exact getRowN (by first | omega | (simp at hg; omega)) | exact getRowI (by first | omega | (simp at hg; omega))); exact rfl)
    | (apply Q_index TYok; (refine Ev.of rfl ?_; first | exact fun _ => trivial | exact id | exact And.right | exact And.left | exact fun h => h.1.2 | exact fun h => h.1.1 | exact fun h => h.1.1.1 | exact fun h => h.1.1.2); (refine Ev.of rfl ?_; first | exact fun _ => trivial | exact id | exact And.right | exact And.left | exact fun h => h.1.2 | exact fun h => h.1.1 | exact fun h => h.1.1.1 | exact fun h => h.1.1.2); exact rfl; exact rfl; exact rfl; exact rfl; exact rfl; (intro hg; first | (simp; omega) | (simp at hg; simp; omega)))
    | (apply Q_binS; (refine Ev.of rfl ?_; first | exact fun _ => trivial | exact id | exact And.right | exact And.left | exact fun h => h.1.2 | exact fun h => h.1.1 | exact fun h => h.1.1.1 | exact fun h => h.1.1.2); (refine Ev.of rfl ?_; first | exact fun _ => trivial | exact id | exact And.right | exact And.left | exact fun h => h.1.2 | exact fun h => h.1.1 | exact fun h => h.1.1.1 | exact fun h => h.1.1.2); exact rfl)
    | (apply Q_binB TYok; (refine Ev.of rfl ?_; first | exact fun _ => trivial | exact id | exact And.right | exact And.left | exact fun h => h.1.2 | exact fun h => h.1.1 | exact fun h => h.1.1.1 | exact fun h => h.1.1.2); (refine Ev.of rfl ?_; first | exact fun _ => trivial | exact id | exact And.right | exact And.left | exact fun h => h.1.2 | exact fun h => h.1.1 | exact fun h => h.1.1.1 | exact fun h => h.1.1.2); exact rfl; exact rfl; exact rfl)
    | (apply Q_neg; (refine Ev.of rfl ?_; first | exact fun _ => trivial | exact id | exact And.right | exact And.left | exact fun h => h.1.2 | exact fun h => h.1.1 | exact fun h => h.1.1.1 | exact fun h => h.1.1.2); (first | omega | (constructor <;> omega)))
    | (apply Q_extract; (refine Ev.of rfl ?_; first | exact fun _ => trivial | exact id | exact And.right | exact And.left | exact fun h => h.1.2 | exact fun h => h.1.1 | exact fun h => h.1.1.1 | exact fun h => h.1.1.2); exact rfl)
    | (apply Q_convI TYok; exact rfl; exact rfl; exact rfl; exact rfl; (refine Ev.of rfl ?_; first | exact fun _ => trivial | exact id | exact And.right | exact And.left | exact fun h => h.1.2 | exact fun h => h.1.1 | exact fun h => h.1.1.1 | exact fun h => h.1.1.2); (first | omega | (constructor <;> omega)))
    | (apply Q_conv TYok; exact rfl; exact rfl; exact rfl; exact rfl; (refine Ev.of rfl ?_; first | exact fun _ => trivial | exact id | exact And.right | exact And.left | exact fun h => h.1.2 | exact fun h => h.1.1 | exact fun h => h.1.1.1 | exact fun h => h.1.1.2))
    | (apply Q_build TYok; (repeat (first | exact EvP.nil | apply EvP.cons (by refine Ev.of rfl ?_; first | exact fun _ => trivial | exact id | exact And.right | exact And.left | exact fun h => h.1.2 | exact fun h => h.1.1 | exact fun h => h.1.1.1 | exact fun h => h.1.1.2))); exact rfl; exact rfl; exact rfl; exact rfl)
    | (apply Q_call (small_ok); (repeat (first | exact EvL.nil | refine EvL.cons (by refine Ev.of rfl ?_; first | exact fun _ => trivial | exact id | exact And.right | exact And.left | exact fun h => h.1.2 | exact fun h => h.1.1 | exact fun h => h.1.1.1 | exact fun h => h.1.1.2) rfl (by first | exact PSub.rfl' | exact PSub.nil') ?_)); exact rfl)
    | (apply Q_call (RR); (repeat (first | exact EvL.nil | refine EvL.cons (by refine Ev.of rfl ?_; first | exact fun _ => trivial | exact id | exact And.right | exact And.left | exact fun h => h.1.2 | exact fun h => h.1.1 | exact fun h => h.1.1.1 | exact fun h => h.1.1.2) rfl (by first | exact PSub.rfl' | exact PSub.nil') ?_)); exact rfl)
    | (apply Q_call (T0); (repeat (first | exact EvL.nil | refine EvL.cons (by refine Ev.of rfl ?_; first | exact fun _ => trivial | exact id | exact And.right | exact And.left | exact fun h => h.1.2 | exact fun h => h.1.1 | exact fun h => h.1.1.1 | exact fun h => h.1.1.2) rfl (by first | exact PSub.rfl' | exact PSub.nil') ?_)); exact rfl)); exact rfl)
      | (apply S_alloc TYok; exact rfl; exact rfl; exact rfl; exact rfl)
      | (apply S_store TYok; (refine Ev.of rfl ?_; first | exact fun _ => trivial | exact id | exact And.right | exact And.left | exact fun h => h.1.2 | exact fun h => h.1.1 | exact fun h => h.1.1.1 | exact fun h => h.1.1.2); (refine Ev.of rfl ?_; first | exact fun _ => trivial | exact id | exact And.right | exact And.left | exact fun h => h.1.2 | exact fun h => h.1.1 | exact fun h => h.1.1.1 | exact fun h => h.1.1.2); exact rfl; exact rfl; exact rfl; exact rfl; exact rfl)
      | (apply S_storem TYok; (refine Ev.of rfl ?_; first | exact fun _ => trivial | exact id | exact And.right | exact And.left | exact fun h => h.1.2 | exact fun h => h.1.1 | exact fun h => h.1.1.1 | exact fun h => h.1.1.2); (refine Ev.of rfl ?_; first | exact fun _ => trivial | exact id | exact And.right | exact And.left | exact fun h => h.1.2 | exact fun h => h.1.1 | exact fun h => h.1.1.1 | exact fun h => h.1.1.2); exact rfl; exact rfl; (first | omega | (simp; omega)); exact rfl; (intro z; exact rfl))
      | (apply S_lit TYok; (repeat (first | exact EvR.nil | apply EvR.cons (by refine Ev.of rfl ?_; first | exact fun _ => trivial | exact id | exact And.right | exact And.left | exact fun h => h.1.2 | exact fun h => h.1.1 | exact fun h => h.1.1.1 | exact fun h => h.1.1.2))); exact rfl; exact rfl; exact rfl; exact rfl; exact rfl; exact rfl; exact rfl; exact rfl; exact rfl)
      | (apply S_make TYok; (refine Ev.of rfl ?_; first | exact fun _ => trivial | exact id | exact And.right | exact And.left | exact fun h => h.1.2 | exact fun h => h.1.1 | exact fun h => h.1.1.1 | exact fun h => h.1.1.2); (refine Ev.of rfl ?_; first | exact fun _ => trivial | exact id | exact And.right | exact And.left | exact fun h => h.1.2 | exact fun h => h.1.1 | exact fun h => h.1.1.1 | exact fun h => h.1.1.2); exact rfl; exact rfl; exact rfl; exact rfl; (refine ⟨by omega, by omega, by simp; omega, by omega⟩); exact rfl; exact rfl)
      | (apply S_append TYok; (refine Ev.of rfl ?_; first | exact fun _ => trivial | exact id | exact And.right | exact And.left | exact fun h => h.1.2 | exact fun h => h.1.1 | exact fun h => h.1.1.1 | exact fun h => h.1.1.2); (refine Ev.of rfl ?_; first | exact fun _ => trivial | exact id | exact And.right | exact And.left | exact fun h => h.1.2 | exact fun h => h.1.1 | exact fun h => h.1.1.1 | exact fun h => h.1.1.2); exact rfl; exact rfl; exact rfl; exact rfl; exact rfl; exact rfl; exact rfl; exact rfl; exact rfl; exact rfl; (constructor <;> simp <;> omega); exact rfl)
      | (apply S_append0 TYok; (refine Ev.of rfl ?_; first | exact fun _ => trivial | exact id | exact And.right | exact And.left | exact fun h => h.1.2 | exact fun h => h.1.1 | exact fun h => h.1.1.1 | exact fun h => h.1.1.2); (refine Ev.of rfl ?_; first | exact fun _ => trivial | exact id | exact And.right | exact And.left | exact fun h => h.1.2 | exact fun h => h.1.1 | exact fun h => h.1.1.1 | exact fun h => h.1.1.2); exact rfl; exact rfl; exact rfl; exact rfl; exact rfl; exact rfl; exact rfl; (constructor <;> simp <;> omega); exact rfl; exact rfl)
      | (apply S_box; (refine Ev.of rfl ?_; first | exact fun _ => trivial | exact id | exact And.right | exact And.left | exact fun h => h.1.2 | exact fun h => h.1.1 | exact fun h => h.1.1.1 | exact fun h => h.1.1.2); exact rfl; exact rfl)
      | (apply RG.gT; exact rfl; exact rfl; (first | assumption | decide))
      | (apply RG.gF; exact rfl; exact rfl; (first | assumption | decide); exact rfl)
      | (refine W.cond (by refine Ev.of rfl ?_; first | exact fun _ => trivial | exact id | exact And.right | exact And.left | exact fun h => h.1.2 | exact fun h => h.1.1 | exact fun h => h.1.1.1 | exact fun h => h.1.1.2) (fun hb => ?_) (fun hb => ?_) <;> (try simp at hb) <;> (try (exfalso; omega))))
    · exfalso
      rcases hb with (hb | hb) | hb
      · omega
      · omega
      · exact hn0 (by rw [hb]; rfl)
    rw [← hs]
    apply W.loopP (σ := Nat) 218 [0, 1, 2, 9, 10, 11, 12, 13] (fun k => k ≤ vs.length) (fun k => [(14, vI (lastX vs s d k)), (15, vI k)]) (fun _ => []) (fun k => vs.length - k) (0)
    case hp => repeat (first | exact Pick.nil | apply Pick.cons rfl)
    case h0 =>
      refine ⟨by simp, ?_⟩
      refine Le.mkR rfl rfl ?_ ?_ ?_ rfl
      · repeat (first | exact SubR.nil | apply SubR.p rfl (by first | rfl | (simp; done) | (congr 3; omega) | (congr 3; simp; omega)) | apply SubR.s rfl rfl rfl | apply SubR.a rfl rfl rfl | apply SubR.t rfl rfl)
      · repeat (first | exact SubR.nil | apply SubR.p rfl (by first | rfl | (simp; done) | (congr 3; omega) | (congr 3; simp; omega)) | apply SubR.s rfl rfl rfl | apply SubR.a rfl rfl rfl | apply SubR.t rfl rfl)
      · repeat (first | exact SubBR.nil | apply SubBR.cons rfl (by first | rfl | (simp only [List.map_append, List.map_replicate, List.map_cons, List.map_nil]; rfl) | (simp; done)))
    case round =>
      rintro k g1
      apply W.norm (by repeat (first | exact App.nil | apply App.cons))
      repeat' (first
        | apply RG.nil
        | apply Lex.nil
        | apply Then.n
        | apply Then.r
        | apply Then.x
        | apply InBlock.n
        | apply InBlock.r
        | apply InBlock.hit
        | (apply InBlock.miss; exact rfl)
        | apply W.seq
        | apply W.region
        | apply W.block
        | apply W.skip
        | apply W.ret
        | apply W.exit
        | ((first | apply U_ | (apply Ug_; exact rfl; exact rfl) | (apply Ugq_; exact rfl; exact rfl) | apply Lex.u | (apply Lex.g; exact rfl; exact rfl) | (apply Lex.gq; exact rfl; exact rfl)); (first
    | (apply Q_move; (refine Ev.of rfl ?_; first | exact fun _ => trivial | exact id | exact And.right | exact And.left | exact fun h => h.1.2 | exact fun h => h.1.1 | exact fun h => h.1.1.1 | exact fun h => h.1.1.2))
    | (apply Q_assign; (refine Ev.of rfl ?_; first | exact fun _ => trivial | exact id | exact And.right | exact And.left | exact fun h => h.1.2 | exact fun h => h.1.1 | exact fun h => h.1.1.1 | exact fun h => h.1.1.2))
    | (apply Q_fieldp TYok; (refine Ev.of rfl ?_; first | exact fun _ => trivial | exact id | exact And.right | exact And.left | exact fun h => h.1.2 | exact fun h => h.1.1 | exact fun h => h.1.1.1 | exact fun h => h.1.1.2); exact rfl; exact rfl; exact rfl; exact rfl; exact rfl)
    | (apply Q_field TYok; (refine Ev.of rfl ?_; first | exact fun _ => trivial | exact id | exact And.right | exact And.left | exact fun h => h.1.2 | exact fun h => h.1.1 | exact fun h => h.1.1.1 | exact fun h => h.1.1.2); exact rfl; exact rfl; exact rfl; exact rfl; exact rfl)
    | (apply Q_loadp TYok; exact rfl; exact rfl; (refine Ev.of rfl ?_; first | exact fun _ => trivial | exact id | exact And.right | exact And.left | exact fun h => h.1.2 | exact fun h => h.1.1 | exact fun h => h.1.1.1 | exact fun h => h.1.1.2); exact rfl)
    | (apply Q_load TYok; exact rfl; exact rfl; (refine Ev.of rfl ?_; first | exact fun _ => trivial | exact id | exact And.right | exact And.left | exact fun h => h.1.2 | exact fun h => h.1.1 | exact fun h => h.1.1.1 | exact fun h => h.1.1.2); exact rfl; exact rfl; exact rfl)
    | (apply Q_loadm TYok; exact rfl; exact rfl; (refine Ev.of rfl ?_; first | exact fun _ => trivial | exact id | exact And.right | exact And.left | exact fun h => h.1.2 | exact fun h => h.1.1 | exact fun h => h.1.1.1 | exact fun h => h.1.1.2); exact rfl; (intro hg; first | omega | (simp; omega) | (simp at hg; simp; omega)); exact rfl; infer_instance)
    | (apply Q_loadpa TYok; exact rfl; exact rfl; (refine Ev.of rfl ?_; first | exact fun _ => trivial | exact id | exact And.right | exact And.left | exact fun h => h.1.2 | exact fun h => h.1.1 | exact fun h => h.1.1.1 | exact fun h => h.1.1.2); exact rfl)
    | (apply Q_loada TYok; exact rfl; exact rfl; (refine Ev.of rfl ?_; first | exact fun _ => trivial | exact id | exact And.right | exact And.left | exact fun h => h.1.2 | exact fun h => h.1.1 | exact fun h => h.1.1.1 | exact fun h => h.1.1.2); exact rfl; exact rfl; exact rfl)
    | (apply Q_loadma TYok; exact rfl; exact rfl; (refine Ev.of rfl ?_; first | exact fun _ => trivial | exact id | exact And.right | exact And.left | exact fun h => h.1.2 | exact fun h => h.1.1 | exact fun h => h.1.1.1 | exact fun h => h.1.1.2); exact rfl; (intro hg; first | omega | (simp; omega) | (simp at hg; simp; omega)); exact rfl; infer_instance)
    | (apply Q_add; (refine Ev.of rfl ?_; first | exact fun _ => trivial | exact id | exact And.right | exact And.left | exact fun h => h.1.2 | exact fun h => h.1.1 | exact fun h => h.1.1.1 | exact fun h => h.1.1.2); (refine Ev.of rfl ?_; first | exact fun _ => trivial | exact id | exact And.right | exact And.left | exact fun h => h.1.2 | exact fun h => h.1.1 | exact fun h => h.1.1.1 | exact fun h => h.1.1.2); (first | omega | (constructor <;> omega)))
    | (apply Q_sub; (refine Ev.of rfl ?_; first | exact fun _ => trivial | exact id | exact And.right | exact And.left | exact fun h => h.1.2 | exact fun h => h.1.1 | exact fun h => h.1.1.1 | exact fun h => h.1.1.2); (refine Ev.of rfl ?_; first | exact fun _ => trivial | exact id | exact And.right | exact And.left | exact fun h => h.1.2 | exact fun h => h.1.1 | exact fun h => h.1.1.1 | exact fun h => h.1.1.2); (first | omega | (constructor <;> omega)))
    | (apply Q_mul; (refine Ev.of rfl ?_; first | exact fun _ => trivial | exact id | exact And.right | exact And.left | exact fun h => h.1.2 | exact fun h => h.1.1 | exact fun h => h.1.1.1 | exact fun h => h.1.1.2); (refine Ev.of rfl ?_; first | exact fun _ => trivial | exact id | exact And.right | exact And.left | exact fun h => h.1.2 | exact fun h => h.1.1 | exact fun h => h.1.1.1 | exact fun h => h.1.1.2); (first | omega | (constructor <;> omega)))
    | (apply Q_quoN; (refine Ev.of rfl ?_; first | exact fun _ => trivial | exact id | exact And.right | exact And.left | exact fun h => h.1.2 | exact fun h => h.1.1 | exact fun h => h.1.1.1 | exact fun h => h.1.1.2); (refine Ev.of rfl ?_; first | exact fun _ => trivial | exact id | exact And.right | exact And.left | exact fun h => h.1.2 | exact fun h => h.1.1 | exact fun h => h.1.1.1 | exact fun h => h.1.1.2); (first | omega | (constructor <;> omega)))
    | (apply Q_remN; (refine Ev.of rfl ?_; first | exact fun _ => trivial | exact id | exact And.right | exact And.left | exact fun h => h.1.2 | exact fun h => h.1.1 | exact fun h => h.1.1.1 | exact fun h => h.1.1.2); (refine Ev.of rfl ?_; first | exact fun _ => trivial | exact id | exact And.right | exact And.left | exact fun h => h.1.2 | exact fun h => h.1.1 | exact fun h => h.1.1.1 | exact fun h => h.1.1.2); (first | omega | (constructor <;> omega)))
    | (apply Q_bin; (refine Ev.of rfl ?_; first | exact fun _ => trivial | exact id | exact And.right | exact And.left | exact fun h => h.1.2 | exact fun h => h.1.1 | exact fun h => h.1.1.1 | exact fun h => h.1.1.2); (refine Ev.of rfl ?_; first | exact fun _ => trivial | exact id | exact And.right | exact And.left | exact fun h => h.1.2 | exact fun h => h.1.1 | exact fun h => h.1.1.1 | exact fun h => h.1.1.2); exact rfl)
    | (apply Q_or; (refine Ev.of rfl ?_; first | exact fun _ => trivial | exact id | exact And.right | exact And.left | exact fun h => h.1.2 | exact fun h => h.1.1 | exact fun h => h.1.1.1 | exact fun h => h.1.1.2); (refine Ev.of rfl ?_; first | exact fun _ => trivial | exact id | exact And.right | exact And.left | exact fun h => h.1.2 | exact fun h => h.1.1 | exact fun h => h.1.1.1 | exact fun h => h.1.1.2))
    | (apply Q_and; (refine Ev.of rfl ?_; first | exact fun _ => trivial | exact id | exact And.right | exact And.left | exact fun h => h.1.2 | exact fun h => h.1.1 | exact fun h => h.1.1.1 | exact fun h => h.1.1.2); (refine Ev.of rfl ?_; first | exact fun _ => trivial | exact id | exact And.right | exact And.left | exact fun h => h.1.2 | exact fun h => h.1.1 | exact fun h => h.1.1.1 | exact fun h => h.1.1.2))
    | (apply Q_not; (refine Ev.of rfl ?_; first | exact fun _ => trivial | exact id | exact And.right | exact And.left | exact fun h => h.1.2 | exact fun h => h.1.1 | exact fun h => h.1.1.1 | exact fun h => h.1.1.2))
    | (apply Q_max; (refine Ev.of rfl ?_; first | exact fun _ => trivial | exact id | exact And.right | exact And.left | exact fun h => h.1.2 | exact fun h => h.1.1 | exact fun h => h.1.1.1 | exact fun h => h.1.1.2); (refine Ev.of rfl ?_; first | exact fun _ => trivial | exact id | exact And.right | exact And.left | exact fun h => h.1.2 | exact fun h => h.1.1 | exact fun h => h.1.1.1 | exact fun h => h.1.1.2))
    | (apply Q_min; (refine Ev.of rfl ?_; first | exact fun _ => trivial | exact id | exact And.right | exact And.left | exact fun h => h.1.2 | exact fun h => h.1.1 | exact fun h => h.1.1.1 | exact fun h => h.1.1.2); (refine Ev.of rfl ?_; first | exact fun _ => trivial | exact id | exact And.right | exact And.left | exact fun h => h.1.2 | exact fun h => h.1.1 | exact fun h => h.1.1.1 | exact fun h => h.1.1.2))
    | (apply Q_lenm TYok; (refine Ev.of rfl ?_; first | exact fun _ => trivial | exact id | exact And.right | exact And.left | exact fun h => h.1.2 | exact fun h => h.1.1 | exact fun h => h.1.1.1 | exact fun h => h.1.1.2); exact rfl; exact rfl)
    | (apply Q_lend TYok; (refine Ev.of rfl ?_; first | exact fun _ => trivial | exact id | exact And.right | exact And.left | exact fun h => h.1.2 | exact fun h => h.1.1 | exact fun h => h.1.1.1 | exact fun h => h.1.1.2); exact rfl; exact rfl)
    | (apply Q_lenom TYok; (refine Ev.of rfl ?_; first | exact fun _ => trivial | exact id | exact And.right | exact And.left | exact fun h => h.1.2 | exact fun h => h.1.1 | exact fun h => h.1.1.1 | exact fun h => h.1.1.2); exact rfl; exact rfl; exact rfl)
    | (apply Q_len TYok; (refine Ev.of rfl ?_; first | exact fun _ => trivial | exact id | exact And.right | exact And.left | exact fun h => h.1.2 | exact fun h => h.1.1 | exact fun h => h.1.1.1 | exact fun h => h.1.1.2); exact rfl; exact rfl; exact rfl)
    | (apply Q_len0 TYok; (refine Ev.of rfl ?_; first | exact fun _ => trivial | exact id | exact And.right | exact And.left | exact fun h => h.1.2 | exact fun h => h.1.1 | exact fun h => h.1.1.1 | exact fun h => h.1.1.2); exact rfl; exact rfl)
    | (apply Q_lens TYok; (refine Ev.of rfl ?_; first | exact fun _ => trivial | exact id | exact And.right | exact And.left | exact fun h => h.1.2 | exact fun h => h.1.1 | exact fun h => h.1.1.1 | exact fun h => h.1.1.2); exact rfl; exact rfl)
    | (apply Q_indexd TYok; (refine Ev.of rfl ?_; first | exact fun _ => trivial | exact id | exact And.right | exact And.left | exact fun h => h.1.2 | exact fun h => h.1.1 | exact fun h => h.1.1.1 | exact fun h => h.1.1.2); (refine Ev.of rfl ?_; first | exact fun _ => trivial | exact id | exact And.right | exact And.left | exact fun h => h.1.2 | exact fun h => h.1.1 | exact fun h => h.1.1.1 | exact fun h => h.1.1.2); exact rfl; exact rfl; exact rfl; (intro hg; first | exact getRowN (by first | omega | (simp at hg; omega)) | exact getRowI (by first | omega | (simp at hg; omega))); exact rfl)
    | (apply Q_index TYok; (refine Ev.of rfl ?_; first | exact fun _ => trivial | exact id | exact And.right | exact And.left | exact fun h => h.1.2 | exact fun h => h.1.1 | exact fun h => h.1.1.1 | exact fun h => h.1.1.2); (refine Ev.of rfl ?_; first | exact fun _ => trivial | exact id | exact And.right | exact And.left | exact fun h => h.1.2 | exact fun h => h.1.1 | exact fun h => h.1.1.1 | exact fun h => h.1.1.2); exact rfl; exact rfl; exact rfl; exact rfl; exact rfl; (intro hg; first | (simp; omega) | (simp at hg; simp; omega)))
    | (apply Q_binS; (refine Ev.of rfl ?_; first | exact fun _ => trivial | exact id | exact And.right | exact And.left | exact fun h => h.1.2 | exact fun h => h.1.1 | exact fun h => h.1.1.1 | exact fun h => h.1.1.2); (refine Ev.of rfl ?_; first | exact fun _ => trivial | exact id | exact And.right | exact And.left | exact fun h => h.1.2 | exact fun h => h.1.1 | exact fun h => h.1.1.1 | exact fun h => h.1.1.2); exact rfl)
    | (apply Q_binB TYok; (refine Ev.of rfl ?_; first | exact fun _ => trivial | exact id | exact And.right | exact And.left | exact fun h => h.1.2 | exact fun h => h.1.1 | exact fun h => h.1.1.1 | exact fun h => h.1.1.2); (refine Ev.of rfl ?_; first | exact fun _ => trivial | exact id | exact And.right | exact And.left | exact fun h => h.1.2 | exact fun h => h.1.1 | exact fun h => h.1.1.1 | exact fun h => h.1.1.2); exact rfl; exact rfl; exact rfl)
    | (apply Q_neg; (refine Ev.of rfl ?_; first | exact fun _ => trivial | exact id | exact And.right | exact And.left | exact fun h => h.1.2 | exact fun h => h.1.1 | exact fun h => h.1.1.1 | exact fun h => h.1.1.2); (first | omega | (constructor <;> omega)))
    | (apply Q_extract; (refine Ev.of rfl ?_; first | exact fun _ => trivial | exact id | exact And.right | exact And.left | exact fun h => h.1.2 | exact fun h => h.1.1 | exact fun h => h.1.1.1 | exact fun h => h.1.1.2); exact rfl)
    | (apply Q_convI TYok; exact rfl; exact rfl; exact rfl; exact rfl; (refine Ev.of rfl ?_; first | exact fun _ => trivial | exact id | exact And.right | exact And.left | exact fun h => h.1.2 | exact fun h => h.1.1 | exact fun h => h.1.1.1 | exact fun h => h.1.1.2); (first | omega | (constructor <;> omega)))
    | (apply Q_conv TYok; exact rfl; exact rfl; exact rfl; exact rfl; (refine Ev.of rfl ?_; first | exact fun _ => trivial | exact id | exact And.right | exact And.left | exact fun h => h.1.2 | exact fun h => h.1.1 | exact fun h => h.1.1.1 | exact fun h => h.1.1.2))
    | (apply Q_build TYok; (repeat (first | exact EvP.nil | apply EvP.cons (by refine Ev.of rfl ?_; first | exact fun _ => trivial | exact id | exact And.right | exact And.left | exact fun h => h.1.2 | exact fun h => h.1.1 | exact fun h => h.1.1.1 | exact fun h => h.1.1.2))); exact rfl; exact rfl; exact rfl; exact rfl)); exact rfl)
        | (apply S_alloc TYok; exact rfl; exact rfl; exact rfl; exact rfl)
        | (apply S_store TYok; (refine Ev.of rfl ?_; first | exact fun _ => trivial | exact id | exact And.right | exact And.left | exact fun h => h.1.2 | exact fun h => h.1.1 | exact fun h => h.1.1.1 | exact fun h => h.1.1.2); (refine Ev.of rfl ?_; first | exact fun _ => trivial | exact id | exact And.right | exact And.left | exact fun h => h.1.2 | exact fun h => h.1.1 | exact fun h => h.1.1.1 | exact fun h => h.1.1.2); exact rfl; exact rfl; exact rfl; exact rfl; exact rfl)
        | (apply S_storem TYok; (refine Ev.of rfl ?_; first | exact fun _ => trivial | exact id | exact And.right | exact And.left | exact fun h => h.1.2 | exact fun h => h.1.1 | exact fun h => h.1.1.1 | exact fun h => h.1.1.2); (refine Ev.of rfl ?_; first | exact fun _ => trivial | exact id | exact And.right | exact And.left | exact fun h => h.1.2 | exact fun h => h.1.1 | exact fun h => h.1.1.1 | exact fun h => h.1.1.2); exact rfl; exact rfl; (first | omega | (simp; omega)); exact rfl; (intro z; exact rfl))
        | (apply S_lit TYok; (repeat (first | exact EvR.nil | apply EvR.cons (by refine Ev.of rfl ?_; first | exact fun _ => trivial | exact id | exact And.right | exact And.left | exact fun h => h.1.2 | exact fun h => h.1.1 | exact fun h => h.1.1.1 | exact fun h => h.1.1.2))); exact rfl; exact rfl; exact rfl; exact rfl; exact rfl; exact rfl; exact rfl; exact rfl; exact rfl)
        | (apply S_make TYok; (refine Ev.of rfl ?_; first | exact fun _ => trivial | exact id | exact And.right | exact And.left | exact fun h => h.1.2 | exact fun h => h.1.1 | exact fun h => h.1.1.1 | exact fun h => h.1.1.2); (refine Ev.of rfl ?_; first | exact fun _ => trivial | exact id | exact And.right | exact And.left | exact fun h => h.1.2 | exact fun h => h.1.1 | exact fun h => h.1.1.1 | exact fun h => h.1.1.2); exact rfl; exact rfl; exact rfl; exact rfl; (refine ⟨by omega, by omega, by simp; omega, by omega⟩); exact rfl; exact rfl)
        | (apply S_append TYok; (refine Ev.of rfl ?_; first | exact fun _ => trivial | exact id | exact And.right | exact And.left | exact fun h => h.1.2 | exact fun h => h.1.1 | exact fun h => h.1.1.1 | exact fun h => h.1.1.2); (refine Ev.of rfl ?_; first | exact fun _ => trivial | exact id | exact And.right | exact And.left | exact fun h => h.1.2 | exact fun h => h.1.1 | exact fun h => h.1.1.1 | exact fun h => h.1.1.2); exact rfl; exact rfl; exact rfl; exact rfl; exact rfl; exact rfl; exact rfl; exact rfl; exact rfl; exact rfl; (constructor <;> simp <;> omega); exact rfl)
        | (apply S_append0 TYok; (refine Ev.of rfl ?_; first | exact fun _ => trivial | exact id | exact And.right | exact And.left | exact fun h => h.1.2 | exact fun h => h.1.1 | exact fun h => h.1.1.1 | exact fun h => h.1.1.2); (refine Ev.of rfl ?_; first | exact fun _ => trivial | exact id | exact And.right | exact And.left | exact fun h => h.1.2 | exact fun h => h.1.1 | exact fun h => h.1.1.1 | exact fun h => h.1.1.2); exact rfl; exact rfl; exact rfl; exact rfl; exact rfl; exact rfl; exact rfl; (constructor <;> simp <;> omega); exact rfl; exact rfl)
        | (apply S_box; (refine Ev.of rfl ?_; first | exact fun _ => trivial | exact id | exact And.right | exact And.left | exact fun h => h.1.2 | exact fun h => h.1.1 | exact fun h => h.1.1.1 | exact fun h => h.1.1.2); exact rfl; exact rfl)
        | (apply RG.gT; exact rfl; exact rfl; (first | assumption | decide))
        | (apply RG.gF; exact rfl; exact rfl; (first | assumption | decide); exact rfl)
        | (refine W.cond (by refine Ev.of rfl ?_; first | exact fun _ => trivial | exact id | exact And.right | exact And.left | exact fun h => h.1.2 | exact fun h => h.1.1 | exact fun h => h.1.1.1 | exact fun h => h.1.1.2) (fun hb => ?_) (fun hb => ?_) <;> (try simp at hb) <;> (try (exfalso; omega))))
      · have e1 : lastX vs s d (k + 1) = k := by rw [lastX, if_pos hb]
        refine ⟨k + 1, by omega, ?_, by omega⟩
        rw [e1]
        refine Le.mkR rfl rfl ?_ ?_ ?_ rfl
        · repeat (first | exact SubR.nil | apply SubR.p rfl (by first | rfl | (simp; done) | (congr 3; omega) | (congr 3; simp; omega)) | apply SubR.s rfl rfl rfl | apply SubR.a rfl rfl rfl | apply SubR.t rfl rfl)
        · repeat (first | exact SubR.nil | apply SubR.p rfl (by first | rfl | (simp; done) | (congr 3; omega) | (congr 3; simp; omega)) | apply SubR.s rfl rfl rfl | apply SubR.a rfl rfl rfl | apply SubR.t rfl rfl)
        · repeat (first | exact SubBR.nil | apply SubBR.cons rfl (by first | rfl | (simp only [List.map_append, List.map_replicate, List.map_cons, List.map_nil]; rfl) | (simp; done)))
      · have e1 : lastX vs s d (k + 1) = lastX vs s d k := by rw [lastX, if_neg (fun hc => by have := hb hc.1; omega)]
        refine ⟨k + 1, by omega, ?_, by omega⟩
        rw [e1]
        refine Le.mkR rfl rfl ?_ ?_ ?_ rfl
        · repeat (first | exact SubR.nil | apply SubR.p rfl (by first | rfl | (simp; done) | (congr 3; omega) | (congr 3; simp; omega)) | apply SubR.s rfl rfl rfl | apply SubR.a rfl rfl rfl | apply SubR.t rfl rfl)
        · repeat (first | exact SubR.nil | apply SubR.p rfl (by first | rfl | (simp; done) | (congr 3; omega) | (congr 3; simp; omega)) | apply SubR.s rfl rfl rfl | apply SubR.a rfl rfl rfl | apply SubR.t rfl rfl)
        · repeat (first | exact SubBR.nil | apply SubBR.cons rfl (by first | rfl | (simp only [List.map_append, List.map_replicate, List.map_cons, List.map_nil]; rfl) | (simp; done)))
      obtain rfl : k = vs.length := by omega
      rw [← hm]
      apply W.loopP (σ := Nat) 218 [0, 1, 2, 9, 10, 11, 12, 13, 14] (fun k => k ≤ vs.length) (fun k => [(16, (True, .slc 16)), (17, (True, .slc 17)), (18, (True, .slc 18)), (19, vI k)]) (fun k => [(16, ⟨36, 3, (someF vs s m k).map encV⟩), (17, ⟨36, 3, (noneF vs s k).map encV⟩), (18, ⟨36, 3, (twiceF vs m k).map encV⟩)]) (fun k => vs.length - k) (0)
      case hp => repeat (first | exact Pick.nil | apply Pick.cons rfl)
      case h0 =>
        refine ⟨by simp, ?_⟩
        refine Le.trans (Le.nilOwn (t := 16) (n := 16) (E := 36) (sz := 3) rfl) ?_
        refine Le.trans (Le.nilOwn (t := 17) (n := 17) (E := 36) (sz := 3) rfl) ?_
        refine Le.trans (Le.nilOwn (t := 18) (n := 18) (E := 36) (sz := 3) rfl) ?_
        refine Le.mkR rfl rfl ?_ ?_ ?_ rfl
        · repeat (first | exact SubR.nil | apply SubR.p rfl (by first | rfl | (simp; done) | (congr 3; omega) | (congr 3; simp; omega)) | apply SubR.s rfl rfl rfl | apply SubR.a rfl rfl rfl | apply SubR.t rfl rfl)
        · repeat (first | exact SubR.nil | apply SubR.p rfl (by first | rfl | (simp; done) | (congr 3; omega) | (congr 3; simp; omega)) | apply SubR.s rfl rfl rfl | apply SubR.a rfl rfl rfl | apply SubR.t rfl rfl)
        · repeat (first | exact SubBR.nil | apply SubBR.cons rfl (by first | rfl | (simp only [List.map_append, List.map_replicate, List.map_cons, List.map_nil]; rfl) | (simp; done)))
      case round =>
        rintro k g1
        have hlk := lens (vs := vs) (s := s) (m := m) k
        apply W.norm (by repeat (first | exact App.nil | apply App.cons))
        by_cases hk : k < vs.length
        · skip
          repeat' (first
            | apply RG.nil
            | apply Lex.nil
            | apply Then.n
            | apply Then.r
            | apply Then.x
            | apply InBlock.n
            | apply InBlock.r
            | apply InBlock.hit
            | (apply InBlock.miss; exact rfl)
            | apply W.seq
            | apply W.region
            | apply W.block
            | apply W.skip
            | apply W.ret
            | apply W.exit
            | ((first | apply U_ | (apply Ug_; exact rfl; exact rfl) | (apply Ugq_; exact rfl; exact rfl) | apply Lex.u | (apply Lex.g; exact rfl; exact rfl) | (apply Lex.gq; exact rfl; exact rfl)); (first
    | (apply Q_move; (refine Ev.of rfl ?_; first | exact fun _ => trivial | exact id | exact And.right | exact And.left | exact fun h => h.1.2 | exact fun h => h.1.1 | exact fun h => h.1.1.1 | exact fun h => h.1.1.2))
    | (apply Q_assign; (refine Ev.of rfl ?_; first | exact fun _ => trivial | exact id | exact And.right | exact And.left | exact fun h => h.1.2 | exact fun h => h.1.1 | exact fun h => h.1.1.1 | exact fun h => h.1.1.2))
    | (apply Q_fieldp TYok; (refine Ev.of rfl ?_; first | exact fun _ => trivial | exact id | exact And.right | exact And.left | exact fun h => h.1.2 | exact fun h => h.1.1 | exact fun h => h.1.1.1 | exact fun h => h.1.1.2); exact rfl; exact rfl; exact rfl; exact rfl; exact rfl)
    | (apply Q_field TYok; (refine Ev.of rfl ?_; first | exact fun _ => trivial | exact id | exact And.right | exact And.left | exact fun h => h.1.2 | exact fun h => h.1.1 | exact fun h => h.1.1.1 | exact fun h => h.1.1.2); exact rfl; exact rfl; exact rfl; exact rfl; exact rfl)
    | (apply Q_loadp TYok; exact rfl; exact rfl; (refine Ev.of rfl ?_; first | exact fun _ => trivial | exact id | exact And.right | exact And.left | exact fun h => h.1.2 | exact fun h => h.1.1 | exact fun h => h.1.1.1 | exact fun h => h.1.1.2); exact rfl)
    | (apply Q_load TYok; exact rfl; exact rfl; (refine Ev.of rfl ?_; first | exact fun _ => trivial | exact id | exact And.right | exact And.left | exact fun h => h.1.2 | exact fun h => h.1.1 | exact fun h => h.1.1.1 | exact fun h => h.1.1.2); exact rfl; exact rfl; exact rfl)
    | (apply Q_loadm TYok; exact rfl; exact rfl; (refine Ev.of rfl ?_; first | exact fun _ => trivial | exact id | exact And.right | exact And.left | exact fun h => h.1.2 | exact fun h => h.1.1 | exact fun h => h.1.1.1 | exact fun h => h.1.1.2); exact rfl; (intro hg; first | omega | (simp; omega) | (simp at hg; simp; omega)); exact rfl; infer_instance)
    | (apply Q_loadpa TYok; exact rfl; exact rfl; (refine Ev.of rfl ?_; first | exact fun _ => trivial | exact id | exact And.right | exact And.left | exact fun h => h.1.2 | exact fun h => h.1.1 | exact fun h => h.1.1.1 | exact fun h => h.1.1.2); exact rfl)
    | (apply Q_loada TYok; exact rfl; exact rfl; (refine Ev.of rfl ?_; first | exact fun _ => trivial | exact id | exact And.right | exact And.left | exact fun h => h.1.2 | exact fun h => h.1.1 | exact fun h => h.1.1.1 | exact fun h => h.1.1.2); exact rfl; exact rfl; exact rfl)
    | (apply Q_loadma TYok; exact rfl; exact rfl; (refine Ev.of rfl ?_; first | exact fun _ => trivial | exact id | exact And.right | exact And.left | exact fun h => h.1.2 | exact fun h => h.1.1 | exact fun h => h.1.1.1 | exact fun h => h.1.1.2); exact rfl; (intro hg; first | omega | (simp; omega) | (simp at hg; simp; omega)); exact rfl; infer_instance)
    | (apply Q_add; (refine Ev.of rfl ?_; first | exact fun _ => trivial | exact id | exact And.right | exact And.left | exact fun h => h.1.2 | exact fun h => h.1.1 | exact fun h => h.1.1.1 | exact fun h => h.1.1.2); (refine Ev.of rfl ?_; first | exact fun _ => trivial | exact id | exact And.right | exact And.left | exact fun h => h.1.2 | exact fun h => h.1.1 | exact fun h => h.1.1.1 | exact fun h => h.1.1.2); (first | omega | (constructor <;> omega)))
    | (apply Q_sub; (refine Ev.of rfl ?_; first | exact fun _ => trivial | exact id | exact And.right | exact And.left | exact fun h => h.1.2 | exact fun h => h.1.1 | exact fun h => h.1.1.1 | exact fun h => h.1.1.2); (refine Ev.of rfl ?_; first | exact fun _ => trivial | exact id | exact And.right | exact And.left | exact fun h => h.1.2 | exact fun h => h.1.1 | exact fun h => h.1.1.1 | exact fun h => h.1.1.2); (first | omega | (constructor <;> omega)))
    | (apply Q_mul; (refine Ev.of rfl ?_; first | exact fun _ => trivial | exact id | exact And.right | exact And.left | exact fun h => h.1.2 | exact fun h => h.1.1 | exact fun h => h.1.1.1 | exact fun h => h.1.1.2); (refine Ev.of rfl ?_; first | exact fun _ => trivial | exact id | exact And.right | exact And.left | exact fun h => h.1.2 | exact fun h => h.1.1 | exact fun h => h.1.1.1 | exact fun h => h.1.1.2); (first | omega | (constructor <;> omega)))
    | (apply Q_quoN; (refine Ev.of rfl ?_; first | exact fun _ => trivial | exact id | exact And.right | exact And.left | exact fun h => h.1.2 | exact fun h => h.1.1 | exact fun h => h.1.1.1 | exact fun h => h.1.1.2); (refine Ev.of rfl ?_; first | exact fun _ => trivial | exact id | exact And.right | exact And.left | exact fun h => h.1.2 | exact fun h => h.1.1 | exact fun h => h.1.1.1 | exact fun h => h.1.1.2); (first | omega | (constructor <;> omega)))
    | (apply Q_remN; (refine Ev.of rfl ?_; first | exact fun _ => trivial | exact id | exact And.right | exact And.left | exact fun h => h.1.2 | exact fun h => h.1.1 | exact fun h => h.1.1.1 | exact fun h => h.1.1.2); (refine Ev.of rfl ?_; first | exact fun _ => trivial | exact id | exact And.right | exact And.left | exact fun h => h.1.2 | exact fun h => h.1.1 | exact fun h => h.1.1.1 | exact fun h => h.1.1.2); (first | omega | (constructor <;> omega)))
    | (apply Q_bin; (refine Ev.of rfl ?_; first | exact fun _ => trivial | exact id | exact And.right | exact And.left | exact fun h => h.1.2 | exact fun h => h.1.1 | exact fun h => h.1.1.1 | exact fun h => h.1.1.2); (refine Ev.of rfl ?_; first | exact fun _ => trivial | exact id | exact And.right | exact And.left | exact fun h => h.1.2 | exact fun h => h.1.1 | exact fun h => h.1.1.1 | exact fun h => h.1.1.2); exact rfl)
    | (apply Q_or; (refine Ev.of rfl ?_; first | exact fun _ => trivial | exact id | exact And.right | exact And.left | exact fun h => h.1.2 | exact fun h => h.1.1 | exact fun h => h.1.1.1 | exact fun h => h.1.1.2); (refine Ev.of rfl ?_; first | exact fun _ => trivial | exact id | exact And.right | exact And.left | exact fun h => h.1.2 | exact fun h => h.1.1 | exact fun h => h.1.1.1 | exact fun h => h.1.1.2))
    | (apply Q_and; (refine Ev.of rfl ?_; first | exact fun _ => trivial | exact id | exact And.right | exact And.left | exact fun h => h.1.2 | exact fun h => h.1.1 | exact fun h => h.1.1.1 | exact fun h => h.1.1.2); (refine Ev.of rfl ?_; first | exact fun _ => trivial | exact id | exact And.right | exact And.left | exact fun h => h.1.2 | exact fun h => h.1.1 | exact fun h => h.1.1.1 | exact fun h => h.1.1.2))
    | (apply Q_not; (refine Ev.of rfl ?_; first | exact fun _ => trivial | exact id | exact And.right | exact And.left | exact fun h => h.1.2 | exact fun h => h.1.1 | exact fun h => h.1.1.1 | exact fun h => h.1.1.2))
    | (apply Q_max; (refine Ev.of rfl ?_; first | exact fun _ => trivial | exact id | exact And.right | exact And.left | exact fun h => h.1.2 | exact fun h => h.1.1 | exact fun h => h.1.1.1 | exact fun h => h.1.1.2); (refine Ev.of rfl ?_; first | exact fun _ => trivial | exact id | exact And.right | exact And.left | exact fun h => h.1.2 | exact fun h => h.1.1 | exact fun h => h.1.1.1 | exact fun h => h.1.1.2))
    | (apply Q_min; (refine Ev.of rfl ?_; first | exact fun _ => trivial | exact id | exact And.right | exact And.left | exact fun h => h.1.2 | exact fun h => h.1.1 | exact fun h => h.1.1.1 | exact fun h => h.1.1.2); (refine Ev.of rfl ?_; first | exact fun _ => trivial | exact id | exact And.right | exact And.left | exact fun h => h.1.2 | exact fun h => h.1.1 | exact fun h => h.1.1.1 | exact fun h => h.1.1.2))
    | (apply Q_lenm TYok; (refine Ev.of rfl ?_; first | exact fun _ => trivial | exact id | exact And.right | exact And.left | exact fun h => h.1.2 | exact fun h => h.1.1 | exact fun h => h.1.1.1 | exact fun h => h.1.1.2); exact rfl; exact rfl)
    | (apply Q_lend TYok; (refine Ev.of rfl ?_; first | exact fun _ => trivial | exact id | exact And.right | exact And.left | exact fun h => h.1.2 | exact fun h => h.1.1 | exact fun h => h.1.1.1 | exact fun h => h.1.1.2); exact rfl; exact rfl)
    | (apply Q_lenom TYok; (refine Ev.of rfl ?_; first | exact fun _ => trivial | exact id | exact And.right | exact And.left | exact fun h => h.1.2 | exact fun h => h.1.1 | exact fun h => h.1.1.1 | exact fun h => h.1.1.2); exact rfl; exact rfl; exact rfl)
    | (apply Q_len TYok; (refine Ev.of rfl ?_; first | exact fun _ => trivial | exact id | exact And.right | exact And.left | exact fun h => h.1.2 | exact fun h => h.1.1 | exact fun h => h.1.1.1 | exact fun h => h.1.1.2); exact rfl; exact rfl; exact rfl)
    | (apply Q_len0 TYok; (refine Ev.of rfl ?_; first | exact fun _ => trivial | exact id | exact And.right | exact And.left | exact fun h => h.1.2 | exact fun h => h.1.1 | exact fun h => h.1.1.1 | exact fun h => h.1.1.2); exact rfl; exact rfl)
    | (apply Q_lens TYok; (refine Ev.of rfl ?_; first | exact fun _ => trivial | exact id | exact And.right | exact And.left | exact fun h => h.1.2 | exact fun h => h.1.1 | exact fun h => h.1.1.1 | exact fun h => h.1.1.2); exact rfl; exact rfl)
    | (apply Q_indexd TYok; (refine Ev.of rfl ?_; first | exact fun _ => trivial | exact id | exact And.right | exact And.left | exact fun h => h.1.2 | exact fun h => h.1.1 | exact fun h => h.1.1.1 | exact fun h => h.1.1.2); (refine Ev.of rfl ?_; first | exact fun _ => trivial | exact id | exact And.right | exact And.left | exact fun h => h.1.2 | exact fun h => h.1.1 | exact fun h => h.1.1.1 | exact fun h => h.1.1.2); exact rfl; exact rfl; exact rfl; (intro hg; first | exact getRowN (by first | omega | (simp at hg; omega)) | exact getRowI (by first | omega | (simp at hg; omega))); exact rfl)
    | (apply Q_index TYok; (refine Ev.of rfl ?_; first | exact fun _ => trivial | exact id | exact And.right | exact And.left | exact fun h => h.1.2 | exact fun h => h.1.1 | exact fun h => h.1.1.1 | exact fun h => h.1.1.2); (refine Ev.of rfl ?_; first | exact fun _ => trivial | exact id | exact And.right | exact And.left | exact fun h => h.1.2 | exact fun h => h.1.1 | exact fun h => h.1.1.1 | exact fun h => h.1.1.2); exact rfl; exact rfl; exact rfl; exact rfl; exact rfl; (intro hg; first | (simp; omega) | (simp at hg; simp; omega)))
    | (apply Q_binS; (refine Ev.of rfl ?_; first | exact fun _ => trivial | exact id | exact And.right | exact And.left | exact fun h => h.1.2 | exact fun h => h.1.1 | exact fun h => h.1.1.1 | exact fun h => h.1.1.2); (refine Ev.of rfl ?_; first | exact fun _ => trivial | exact id | exact And.right | exact And.left | exact fun h => h.1.2 | exact fun h => h.1.1 | exact fun h => h.1.1.1 | exact fun h => h.1.1.2); exact rfl)
    | (apply Q_binB TYok; (refine Ev.of rfl ?_; first | exact fun _ => trivial | exact id | exact And.right | exact And.left | exact fun h => h.1.2 | exact fun h => h.1.1 | exact fun h => h.1.1.1 | exact fun h => h.1.1.2); (refine Ev.of rfl ?_; first | exact fun _ => trivial | exact id | exact And.right | exact And.left | exact fun h => h.1.2 | exact fun h => h.1.1 | exact fun h => h.1.1.1 | exact fun h => h.1.1.2); exact rfl; exact rfl; exact rfl)
    | (apply Q_neg; (refine Ev.of rfl ?_; first | exact fun _ => trivial | exact id | exact And.right | exact And.left | exact fun h => h.1.2 | exact fun h => h.1.1 | exact fun h => h.1.1.1 | exact fun h => h.1.1.2); (first | omega | (constructor <;> omega)))
    | (apply Q_extract; (refine Ev.of rfl ?_; first | exact fun _ => trivial | exact id | exact And.right | exact And.left | exact fun h => h.1.2 | exact fun h => h.1.1 | exact fun h => h.1.1.1 | exact fun h => h.1.1.2); exact rfl)
    | (apply Q_convI TYok; exact rfl; exact rfl; exact rfl; exact rfl; (refine Ev.of rfl ?_; first | exact fun _ => trivial | exact id | exact And.right | exact And.left | exact fun h => h.1.2 | exact fun h => h.1.1 | exact fun h => h.1.1.1 | exact fun h => h.1.1.2); (first | omega | (constructor <;> omega)))
    | (apply Q_conv TYok; exact rfl; exact rfl; exact rfl; exact rfl; (refine Ev.of rfl ?_; first | exact fun _ => trivial | exact id | exact And.right | exact And.left | exact fun h => h.1.2 | exact fun h => h.1.1 | exact fun h => h.1.1.1 | exact fun h => h.1.1.2))
    | (apply Q_build TYok; (repeat (first | exact EvP.nil | apply EvP.cons (by refine Ev.of rfl ?_; first | exact fun _ => trivial | exact id | exact And.right | exact And.left | exact fun h => h.1.2 | exact fun h => h.1.1 | exact fun h => h.1.1.1 | exact fun h => h.1.1.2))); exact rfl; exact rfl; exact rfl; exact rfl)); exact rfl)
            | (apply S_alloc TYok; exact rfl; exact rfl; exact rfl; exact rfl)
            | (apply S_store TYok; (refine Ev.of rfl ?_; first | exact fun _ => trivial | exact id | exact And.right | exact And.left | exact fun h => h.1.2 | exact fun h => h.1.1 | exact fun h => h.1.1.1 | exact fun h => h.1.1.2); (refine Ev.of rfl ?_; first | exact fun _ => trivial | exact id | exact And.right | exact And.left | exact fun h => h.1.2 | exact fun h => h.1.1 | exact fun h => h.1.1.1 | exact fun h => h.1.1.2); exact rfl; exact rfl; exact rfl; exact rfl; exact rfl)
            | (apply S_storem TYok; (refine Ev.of rfl ?_; first | exact fun _ => trivial | exact id | exact And.right | exact And.left | exact fun h => h.1.2 | exact fun h => h.1.1 | exact fun h => h.1.1.1 | exact fun h => h.1.1.2); (refine Ev.of rfl ?_; first | exact fun _ => trivial | exact id | exact And.right | exact And.left | exact fun h => h.1.2 | exact fun h => h.1.1 | exact fun h => h.1.1.1 | exact fun h => h.1.1.2); exact rfl; exact rfl; (first | omega | (simp; omega)); exact rfl; (intro z; exact rfl))
            | (apply S_lit TYok; (repeat (first | exact EvR.nil | apply EvR.cons (by refine Ev.of rfl ?_; first | exact fun _ => trivial | exact id | exact And.right | exact And.left | exact fun h => h.1.2 | exact fun h => h.1.1 | exact fun h => h.1.1.1 | exact fun h => h.1.1.2))); exact rfl; exact rfl; exact rfl; exact rfl; exact rfl; exact rfl; exact rfl; exact rfl; exact rfl)
            | (apply S_make TYok; (refine Ev.of rfl ?_; first | exact fun _ => trivial | exact id | exact And.right | exact And.left | exact fun h => h.1.2 | exact fun h => h.1.1 | exact fun h => h.1.1.1 | exact fun h => h.1.1.2); (refine Ev.of rfl ?_; first | exact fun _ => trivial | exact id | exact And.right | exact And.left | exact fun h => h.1.2 | exact fun h => h.1.1 | exact fun h => h.1.1.1 | exact fun h => h.1.1.2); exact rfl; exact rfl; exact rfl; exact rfl; (refine ⟨by omega, by omega, by simp; omega, by omega⟩); exact rfl; exact rfl)
            | (apply S_append TYok; (refine Ev.of rfl ?_; first | exact fun _ => trivial | exact id | exact And.right | exact And.left | exact fun h => h.1.2 | exact fun h => h.1.1 | exact fun h => h.1.1.1 | exact fun h => h.1.1.2); (refine Ev.of rfl ?_; first | exact fun _ => trivial | exact id | exact And.right | exact And.left | exact fun h => h.1.2 | exact fun h => h.1.1 | exact fun h => h.1.1.1 | exact fun h => h.1.1.2); exact rfl; exact rfl; exact rfl; exact rfl; exact rfl; exact rfl; exact rfl; exact rfl; exact rfl; exact rfl; (constructor <;> simp <;> omega); exact rfl)
            | (apply S_append0 TYok; (refine Ev.of rfl ?_; first | exact fun _ => trivial | exact id | exact And.right | exact And.left | exact fun h => h.1.2 | exact fun h => h.1.1 | exact fun h => h.1.1.1 | exact fun h => h.1.1.2); (refine Ev.of rfl ?_; first | exact fun _ => trivial | exact id | exact And.right | exact And.left | exact fun h => h.1.2 | exact fun h => h.1.1 | exact fun h => h.1.1.1 | exact fun h => h.1.1.2); exact rfl; exact rfl; exact rfl; exact rfl; exact rfl; exact rfl; exact rfl; (constructor <;> simp <;> omega); exact rfl; exact rfl)
            | (apply S_box; (refine Ev.of rfl ?_; first | exact fun _ => trivial | exact id | exact And.right | exact And.left | exact fun h => h.1.2 | exact fun h => h.1.1 | exact fun h => h.1.1.1 | exact fun h => h.1.1.2); exact rfl; exact rfl)
            | (apply RG.gT; exact rfl; exact rfl; (first | assumption | decide))
            | (apply RG.gF; exact rfl; exact rfl; (first | assumption | decide); exact rfl)
            | (refine W.cond (by refine Ev.of rfl ?_; first | exact fun _ => trivial | exact id | exact And.right | exact And.left | exact fun h => h.1.2 | exact fun h => h.1.1 | exact fun h => h.1.1.1 | exact fun h => h.1.1.2) (fun hb => ?_) (fun hb => ?_) <;> (try simp at hb) <;> (try (exfalso; omega))))
          all_goals
            refine ⟨k + 1, by omega, ?_, by omega⟩
            first
              | rw [show someF vs s m (k + 1) = someF vs s m k ++ [nth vs k] from by rw [someF, if_pos (by omega)]]
              | rw [show someF vs s m (k + 1) = someF vs s m k from by rw [someF, if_neg (by omega), List.append_nil]]
            first
              | rw [show noneF vs s (k + 1) = noneF vs s k ++ [nth vs k] from by rw [noneF, if_pos (by omega)]]
              | rw [show noneF vs s (k + 1) = noneF vs s k from by rw [noneF, if_neg (by omega), List.append_nil]]
            first
              | rw [show twiceF vs m (k + 1) = twiceF vs m k ++ [nth vs k] from by rw [twiceF, if_neg (by omega)]]
              | rw [show twiceF vs m (k + 1) = (twiceF vs m k ++ [nth vs k]) ++ [nth vs k] from by rw [twiceF, if_pos (by omega)]; simp]
            refine Le.mkR rfl rfl ?_ ?_ ?_ rfl
            · repeat (first | exact SubR.nil | apply SubR.p rfl (by first | rfl | (simp; done) | (congr 3; omega) | (congr 3; simp; omega)) | apply SubR.s rfl rfl rfl | apply SubR.a rfl rfl rfl | apply SubR.t rfl rfl)
            · repeat (first | exact SubR.nil | apply SubR.p rfl (by first | rfl | (simp; done) | (congr 3; omega) | (congr 3; simp; omega)) | apply SubR.s rfl rfl rfl | apply SubR.a rfl rfl rfl | apply SubR.t rfl rfl)
            · repeat (first | exact SubBR.nil | apply SubBR.cons rfl (by first | rfl | (simp only [List.map_append, List.map_replicate, List.map_cons, List.map_nil]; rfl) | (simp; done)))
        · obtain rfl : k = vs.length := by omega
          have hpos : 0 ≤ m → m.toNat < vs.length := fun h => by omega
          repeat' (first
            | apply RG.nil
            | apply Lex.nil
            | apply Then.n
            | apply Then.r
            | apply Then.x
            | apply InBlock.n
            | apply InBlock.r
            | apply InBlock.hit
            | (apply InBlock.miss; exact rfl)
            | apply W.seq
            | apply W.region
            | apply W.block
            | apply W.skip
            | apply W.ret
            | apply W.exit
            | ((first | apply U_ | (apply Ug_; exact rfl; exact rfl) | (apply Ugq_; exact rfl; exact rfl) | apply Lex.u | (apply Lex.g; exact rfl; exact rfl) | (apply Lex.gq; exact rfl; exact rfl)); (first
    | (apply Q_move; (refine Ev.of rfl ?_; first | exact fun _ => trivial | exact id | exact And.right | exact And.left | exact fun h => h.1.2 | exact fun h => h.1.1 | exact fun h => h.1.1.1 | exact fun h => h.1.1.2))
    | (apply Q_assign; (refine Ev.of rfl ?_; first | exact fun _ => trivial | exact id | exact And.right | exact And.left | exact fun h => h.1.2 | exact fun h => h.1.1 | exact fun h => h.1.1.1 | exact fun h => h.1.1.2))
    | (apply Q_fieldp TYok; (refine Ev.of rfl ?_; first | exact fun _ => trivial | exact id | exact And.right | exact And.left | exact fun h => h.1.2 | exact fun h => h.1.1 | exact fun h => h.1.1.1 | exact fun h => h.1.1.2); exact rfl; exact rfl; exact rfl; exact rfl; exact rfl)
    | (apply Q_field TYok; (refine Ev.of rfl ?_; first | exact fun _ => trivial | exact id | exact And.right | exact And.left | exact fun h => h.1.2 | exact fun h => h.1.1 | exact fun h => h.1.1.1 | exact fun h => h.1.1.2); exact rfl; exact rfl; exact rfl; exact rfl; exact rfl)
    | (apply Q_loadp TYok; exact rfl; exact rfl; (refine Ev.of rfl ?_; first | exact fun _ => trivial | exact id | exact And.right | exact And.left | exact fun h => h.1.2 | exact fun h => h.1.1 | exact fun h => h.1.1.1 | exact fun h => h.1.1.2); exact rfl)
    | (apply Q_load TYok; exact rfl; exact rfl; (refine Ev.of rfl ?_; first | exact fun _ => trivial | exact id | exact And.right | exact And.left | exact fun h => h.1.2 | exact fun h => h.1.1 | exact fun h => h.1.1.1 | exact fun h => h.1.1.2); exact rfl; exact rfl; exact rfl)
    | (apply Q_loadm TYok; exact rfl; exact rfl; (refine Ev.of rfl ?_; first | exact fun _ => trivial | exact id | exact And.right | exact And.left | exact fun h => h.1.2 | exact fun h => h.1.1 | exact fun h => h.1.1.1 | exact fun h => h.1.1.2); exact rfl; (intro hg; first | omega | (simp; omega) | (simp at hg; simp; omega)); exact rfl; infer_instance)
    | (apply Q_loadpa TYok; exact rfl; exact rfl; (refine Ev.of rfl ?_; first | exact fun _ => trivial | exact id | exact And.right | exact And.left | exact fun h => h.1.2 | exact fun h => h.1.1 | exact fun h => h.1.1.1 | exact fun h => h.1.1.2); exact rfl)
    | (apply Q_loada TYok; exact rfl; exact rfl; (refine Ev.of rfl ?_; first | exact fun _ => trivial | exact id | exact And.right | exact And.left | exact fun h => h.1.2 | exact fun h => h.1.1 | exact fun h => h.1.1.1 | exact fun h => h.1.1.2); exact rfl; exact rfl; exact rfl)
    | (apply Q_loadma TYok; exact rfl; exact rfl; (refine Ev.of rfl ?_; first | exact fun _ => trivial | exact id | exact And.right | exact And.left | exact fun h => h.1.2 | exact fun h => h.1.1 | exact fun h => h.1.1.1 | exact fun h => h.1.1.2); exact rfl; (intro hg; first | omega | (simp; omega) | (simp at hg; simp; omega)); exact rfl; infer_instance)
    | (apply Q_add; (refine Ev.of rfl ?_; first | exact fun _ => trivial | exact id | exact And.right | exact And.left | exact fun h => h.1.2 | exact fun h => h.1.1 | exact fun h => h.1.1.1 | exact fun h => h.1.1.2); (refine Ev.of rfl ?_; first | exact fun _ => trivial | exact id | exact And.right | exact And.left | exact fun h => h.1.2 | exact fun h => h.1.1 | exact fun h => h.1.1.1 | exact fun h => h.1.1.2); (first | omega | (constructor <;> omega)))
    | (apply Q_sub; (refine Ev.of rfl ?_; first | exact fun _ => trivial | exact id | exact And.right | exact And.left | exact fun h => h.1.2 | exact fun h => h.1.1 | exact fun h => h.1.1.1 | exact fun h => h.1.1.2); (refine Ev.of rfl ?_; first | exact fun _ => trivial | exact id | exact And.right | exact And.left | exact fun h => h.1.2 | exact fun h => h.1.1 | exact fun h => h.1.1.1 | exact fun h => h.1.1.2); (first | omega | (constructor <;> omega)))
    | (apply Q_mul; (refine Ev.of rfl ?_; first | exact fun _ => trivial | exact id | exact And.right | exact And.left | exact fun h => h.1.2 | exact fun h => h.1.1 | exact fun h => h.1.1.1 | exact fun h => h.1.1.2); (refine Ev.of rfl ?_; first | exact fun _ => trivial | exact id | exact And.right | exact And.left | exact fun h => h.1.2 | exact fun h => h.1.1 | exact fun h => h.1.1.1 | exact fun h => h.1.1.2); (first | omega | (constructor <;> omega)))
    | (apply Q_quoN; (refine Ev.of rfl ?_; first | exact fun _ => trivial | exact id | exact And.right | exact And.left | exact fun h => h.1.2 | exact fun h => h.1.1 | exact fun h => h.1.1.1 | exact fun h => h.1.1.2); (refine Ev.of rfl ?_; first | exact fun _ => trivial | exact id | exact And.right | exact And.left | exact fun h => h.1.2 | exact fun h => h.1.1 | exact fun h => h.1.1.1 | exact fun h => h.1.1.2); (first | omega | (constructor <;> omega)))
    | (apply Q_remN; (refine Ev.of rfl ?_; first | exact fun _ => trivial | exact id | exact And.right | exact And.left | exact fun h => h.1.2 | exact fun h => h.1.1 | exact fun h => h.1.1.1 | exact fun h => h.1.1.2); (refine Ev.of rfl ?_; first | exact fun _ => trivial | exact id | exact And.right | exact And.left | exact fun h => h.1.2 | exact fun h => h.1.1 | exact fun h => h.1.1.1 | exact fun h => h.1.1.2); (first | omega | (constructor <;> omega)))
    | (apply Q_bin; (refine Ev.of rfl ?_; first | exact fun _ => trivial | exact id | exact And.right | exact And.left | exact fun h => h.1.2 | exact fun h => h.1.1 | exact fun h => h.1.1.1 | exact fun h => h.1.1.2); (refine Ev.of rfl ?_; first | exact fun _ => trivial | exact id | exact And.right | exact And.left | exact fun h => h.1.2 | exact fun h => h.1.1 | exact fun h => h.1.1.1 | exact fun h => h.1.1.2); exact rfl)
    | (apply Q_or; (refine Ev.of rfl ?_; first | exact fun _ => trivial | exact id | exact And.right | exact And.left | exact fun h => h.1.2 | exact fun h => h.1.1 | exact fun h => h.1.1.1 | exact fun h => h.1.1.2); (refine Ev.of rfl ?_; first | exact fun _ => trivial | exact id | exact And.right | exact And.left | exact fun h => h.1.2 | exact fun h => h.1.1 | exact fun h => h.1.1.1 | exact fun h => h.1.1.2))
    | (apply Q_and; (refine Ev.of rfl ?_; first | exact fun _ => trivial | exact id | exact And.right | exact And.left | exact fun h => h.1.2 | exact fun h => h.1.1 | exact fun h => h.1.1.1 | exact fun h => h.1.1.2); (refine Ev.of rfl ?_; first | exact fun _ => trivial | exact id | exact And.right | exact And.left | exact fun h => h.1.2 | exact fun h => h.1.1 | exact fun h => h.1.1.1 | exact fun h => h.1.1.2))
    | (apply Q_not; (refine Ev.of rfl ?_; first | exact fun _ => trivial | exact id | exact And.right | exact And.left | exact fun h => h.1.2 | exact fun h => h.1.1 | exact fun h => h.1.1.1 | exact fun h => h.1.1.2))
    | (apply Q_max; (refine Ev.of rfl ?_; first | exact fun _ => trivial | exact id | exact And.right | exact And.left | exact fun h => h.1.2 | exact fun h => h.1.1 | exact fun h => h.1.1.1 | exact fun h => h.1.1.2); (refine Ev.of rfl ?_; first | exact fun _ => trivial | exact id | exact And.right | exact And.left | exact fun h => h.1.2 | exact fun h => h.1.1 | exact fun h => h.1.1.1 | exact fun h => h.1.1.2))
    | (apply Q_min; (refine Ev.of rfl ?_; first | exact fun _ => trivial | exact id | exact And.right | exact And.left | exact fun h => h.1.2 | exact fun h => h.1.1 | exact fun h => h.1.1.1 | exact fun h => h.1.1.2); (refine Ev.of rfl ?_; first | exact fun _ => trivial | exact id | exact And.right | exact And.left | exact fun h => h.1.2 | exact fun h => h.1.1 | exact fun h => h.1.1.1 | exact fun h => h.1.1.2))
    | (apply Q_lenm TYok; (refine Ev.of rfl ?_; first | exact fun _ => trivial | exact id | exact And.right | exact And.left | exact fun h => h.1.2 | exact fun h => h.1.1 | exact fun h => h.1.1.1 | exact fun h => h.1.1.2); exact rfl; exact rfl)
    | (apply Q_lend TYok; (refine Ev.of rfl ?_; first | exact fun _ => trivial | exact id | exact And.right | exact And.left | exact fun h => h.1.2 | exact fun h => h.1.1 | exact fun h => h.1.1.1 | exact fun h => h.1.1.2); exact rfl; exact rfl)
    | (apply Q_lenom TYok; (refine Ev.of rfl ?_; first | exact fun _ => trivial | exact id | exact And.right | exact And.left | exact fun h => h.1.2 | exact fun h => h.1.1 | exact fun h => h.1.1.1 | exact fun h => h.1.1.2); exact rfl; exact rfl; exact rfl)
    | (apply Q_len TYok; (refine Ev.of rfl ?_; first | exact fun _ => trivial | exact id | exact And.right | exact And.left | exact fun h => h.1.2 | exact fun h => h.1.1 | exact fun h => h.1.1.1 | exact fun h => h.1.1.2); exact rfl; exact rfl; exact rfl)
    | (apply Q_len0 TYok; (refine Ev.of rfl ?_; first | exact fun _ => trivial | exact id | exact And.right | exact And.left | exact fun h => h.1.2 | exact fun h => h.1.1 | exact fun h => h.1.1.1 | exact fun h => h.1.1.2); exact rfl; exact rfl)
    | (apply Q_lens TYok; (refine Ev.of rfl ?_; first | exact fun _ => trivial | exact id | exact And.right | exact And.left | exact fun h => h.1.2 | exact fun h => h.1.1 | exact fun h => h.1.1.1 | exact fun h => h.1.1.2); exact rfl; exact rfl)
    | (apply Q_indexd TYok; (refine Ev.of rfl ?_; first | exact fun _ => trivial | exact id | exact And.right | exact And.left | exact fun h => h.1.2 | exact fun h => h.1.1 | exact fun h => h.1.1.1 | exact fun h => h.1.1.2); (refine Ev.of rfl ?_; first | exact fun _ => trivial | exact id | exact And.right | exact And.left | exact fun h => h.1.2 | exact fun h => h.1.1 | exact fun h => h.1.1.1 | exact fun h => h.1.1.2); exact rfl; exact rfl; exact rfl; (intro hg; first | exact getRowN (by first | omega | (simp at hg; omega)) | exact getRowI (by first | omega | (simp at hg; omega))); exact rfl)
    | (apply Q_index TYok; (refine Ev.of rfl ?_; first | exact fun _ => trivial | exact id | exact And.right | exact And.left | exact fun h => h.1.2 | exact fun h => h.1.1 | exact fun h => h.1.1.1 | exact fun h => h.1.1.2); (refine Ev.of rfl ?_; first | exact fun _ => trivial | exact id | exact And.right | exact And.left | exact fun h => h.1.2 | exact fun h => h.1.1 | exact fun h => h.1.1.1 | exact fun h => h.1.1.2); exact rfl; exact rfl; exact rfl; exact rfl; exact rfl; (intro hg; first | (simp; omega) | (simp at hg; simp; omega)))
    | (apply Q_binS; (refine Ev.of rfl ?_; first | exact fun _ => trivial | exact id | exact And.right | exact And.left | exact fun h => h.1.2 | exact fun h => h.1.1 | exact fun h => h.1.1.1 | exact fun h => h.1.1.2); (refine Ev.of rfl ?_; first | exact fun _ => trivial | exact id | exact And.right | exact And.left | exact fun h => h.1.2 | exact fun h => h.1.1 | exact fun h => h.1.1.1 | exact fun h => h.1.1.2); exact rfl)
    | (apply Q_binB TYok; (refine Ev.of rfl ?_; first | exact fun _ => trivial | exact id | exact And.right | exact And.left | exact fun h => h.1.2 | exact fun h => h.1.1 | exact fun h => h.1.1.1 | exact fun h => h.1.1.2); (refine Ev.of rfl ?_; first | exact fun _ => trivial | exact id | exact And.right | exact And.left | exact fun h => h.1.2 | exact fun h => h.1.1 | exact fun h => h.1.1.1 | exact fun h => h.1.1.2); exact rfl; exact rfl; exact rfl)
    | (apply Q_neg; (refine Ev.of rfl ?_; first | exact fun _ => trivial | exact id | exact And.right | exact And.left | exact fun h => h.1.2 | exact fun h => h.1.1 | exact fun h => h.1.1.1 | exact fun h => h.1.1.2); (first | omega | (constructor <;> omega)))
    | (apply Q_extract; (refine Ev.of rfl ?_; first | exact fun _ => trivial | exact id | exact And.right | exact And.left | exact fun h => h.1.2 | exact fun h => h.1.1 | exact fun h => h.1.1.1 | exact fun h => h.1.1.2); exact rfl)
    | (apply Q_convI TYok; exact rfl; exact rfl; exact rfl; exact rfl; (refine Ev.of rfl ?_; first | exact fun _ => trivial | exact id | exact And.right | exact And.left | exact fun h => h.1.2 | exact fun h => h.1.1 | exact fun h => h.1.1.1 | exact fun h => h.1.1.2); (first | omega | (constructor <;> omega)))
    | (apply Q_conv TYok; exact rfl; exact rfl; exact rfl; exact rfl; (refine Ev.of rfl ?_; first | exact fun _ => trivial | exact id | exact And.right | exact And.left | exact fun h => h.1.2 | exact fun h => h.1.1 | exact fun h => h.1.1.1 | exact fun h => h.1.1.2))
    | (apply Q_build TYok; (repeat (first | exact EvP.nil | apply EvP.cons (by refine Ev.of rfl ?_; first | exact fun _ => trivial | exact id | exact And.right | exact And.left | exact fun h => h.1.2 | exact fun h => h.1.1 | exact fun h => h.1.1.1 | exact fun h => h.1.1.2))); exact rfl; exact rfl; exact rfl; exact rfl)
    | (apply Q_call (T0); (repeat (first | exact EvL.nil | refine EvL.cons (by refine Ev.of rfl ?_; first | exact fun _ => trivial | exact id | exact And.right | exact And.left | exact fun h => h.1.2 | exact fun h => h.1.1 | exact fun h => h.1.1.1 | exact fun h => h.1.1.2) rfl (by first | exact PSub.rfl' | exact PSub.nil') ?_)); exact rfl)
    | (apply Q_call (T1); (repeat (first | exact EvL.nil | refine EvL.cons (by refine Ev.of rfl ?_; first | exact fun _ => trivial | exact id | exact And.right | exact And.left | exact fun h => h.1.2 | exact fun h => h.1.1 | exact fun h => h.1.1.1 | exact fun h => h.1.1.2) rfl (by first | exact PSub.rfl' | exact PSub.nil') ?_)); exact rfl)
    | (apply Q_call (T2); (repeat (first | exact EvL.nil | refine EvL.cons (by refine Ev.of rfl ?_; first | exact fun _ => trivial | exact id | exact And.right | exact And.left | exact fun h => h.1.2 | exact fun h => h.1.1 | exact fun h => h.1.1.1 | exact fun h => h.1.1.2) rfl (by first | exact PSub.rfl' | exact PSub.nil') ?_)); exact rfl)
    | (apply Q_call (T3); (repeat (first | exact EvL.nil | refine EvL.cons (by refine Ev.of rfl ?_; first | exact fun _ => trivial | exact id | exact And.right | exact And.left | exact fun h => h.1.2 | exact fun h => h.1.1 | exact fun h => h.1.1.1 | exact fun h => h.1.1.2) rfl (by first | exact PSub.rfl' | exact PSub.nil') ?_)); exact rfl)); exact rfl)
            | (apply S_alloc TYok; exact rfl; exact rfl; exact rfl; exact rfl)
            | (apply S_store TYok; (refine Ev.of rfl ?_; first | exact fun _ => trivial | exact id | exact And.right | exact And.left | exact fun h => h.1.2 | exact fun h => h.1.1 | exact fun h => h.1.1.1 | exact fun h => h.1.1.2); (refine Ev.of rfl ?_; first | exact fun _ => trivial | exact id | exact And.right | exact And.left | exact fun h => h.1.2 | exact fun h => h.1.1 | exact fun h => h.1.1.1 | exact fun h => h.1.1.2); exact rfl; exact rfl; exact rfl; exact rfl; exact rfl)
            | (apply S_storem TYok; (refine Ev.of rfl ?_; first | exact fun _ => trivial | exact id | exact And.right | exact And.left | exact fun h => h.1.2 | exact fun h => h.1.1 | exact fun h => h.1.1.1 | exact fun h => h.1.1.2); (refine Ev.of rfl ?_; first | exact fun _ => trivial | exact id | exact And.right | exact And.left | exact fun h => h.1.2 | exact fun h => h.1.1 | exact fun h => h.1.1.1 | exact fun h => h.1.1.2); exact rfl; exact rfl; (first | omega | (simp; omega)); exact rfl; (intro z; exact rfl))
            | (apply S_lit TYok; (repeat (first | exact EvR.nil | apply EvR.cons (by refine Ev.of rfl ?_; first | exact fun _ => trivial | exact id | exact And.right | exact And.left | exact fun h => h.1.2 | exact fun h => h.1.1 | exact fun h => h.1.1.1 | exact fun h => h.1.1.2))); exact rfl; exact rfl; exact rfl; exact rfl; exact rfl; exact rfl; exact rfl; exact rfl; exact rfl)
            | (apply S_make TYok; (refine Ev.of rfl ?_; first | exact fun _ => trivial | exact id | exact And.right | exact And.left | exact fun h => h.1.2 | exact fun h => h.1.1 | exact fun h => h.1.1.1 | exact fun h => h.1.1.2); (refine Ev.of rfl ?_; first | exact fun _ => trivial | exact id | exact And.right | exact And.left | exact fun h => h.1.2 | exact fun h => h.1.1 | exact fun h => h.1.1.1 | exact fun h => h.1.1.2); exact rfl; exact rfl; exact rfl; exact rfl; (refine ⟨by omega, by omega, by simp; omega, by omega⟩); exact rfl; exact rfl)
            | (apply S_append TYok; (refine Ev.of rfl ?_; first | exact fun _ => trivial | exact id | exact And.right | exact And.left | exact fun h => h.1.2 | exact fun h => h.1.1 | exact fun h => h.1.1.1 | exact fun h => h.1.1.2); (refine Ev.of rfl ?_; first | exact fun _ => trivial | exact id | exact And.right | exact And.left | exact fun h => h.1.2 | exact fun h => h.1.1 | exact fun h => h.1.1.1 | exact fun h => h.1.1.2); exact rfl; exact rfl; exact rfl; exact rfl; exact rfl; exact rfl; exact rfl; exact rfl; exact rfl; exact rfl; (constructor <;> simp <;> omega); exact rfl)
            | (apply S_append0 TYok; (refine Ev.of rfl ?_; first | exact fun _ => trivial | exact id | exact And.right | exact And.left | exact fun h => h.1.2 | exact fun h => h.1.1 | exact fun h => h.1.1.1 | exact fun h => h.1.1.2); (refine Ev.of rfl ?_; first | exact fun _ => trivial | exact id | exact And.right | exact And.left | exact fun h => h.1.2 | exact fun h => h.1.1 | exact fun h => h.1.1.1 | exact fun h => h.1.1.2); exact rfl; exact rfl; exact rfl; exact rfl; exact rfl; exact rfl; exact rfl; (constructor <;> simp <;> omega); exact rfl; exact rfl)
            | (apply S_box; (refine Ev.of rfl ?_; first | exact fun _ => trivial | exact id | exact And.right | exact And.left | exact fun h => h.1.2 | exact fun h => h.1.1 | exact fun h => h.1.1.1 | exact fun h => h.1.1.2); exact rfl; exact rfl)
            | (apply RG.gT; exact rfl; exact rfl; (first | assumption | decide))
            | (apply RG.gF; exact rfl; exact rfl; (first | assumption | decide); exact rfl)
            | (refine W.cond (by refine Ev.of rfl ?_; first | exact fun _ => trivial | exact id | exact And.right | exact And.left | exact fun h => h.1.2 | exact fun h => h.1.1 | exact fun h => h.1.1.1 | exact fun h => h.1.1.2) (fun hb => ?_) (fun hb => ?_) <;> (try simp at hb) <;> (try (exfalso; omega))))
          · refine Fin.retB rfl ?_
            have h2 := hb.2
            rw [show (max m 0).toNat = m.toNat by omega] at h2
            have e : lastB s d false vs = true := by rw [hat, if_pos hb.1]; exact h2
            rw [if_pos ⟨hs0.2, e⟩] at y2
            rw [Bool.true_and]
            exact decide_eq_true y2
          · refine Fin.retB rfl ?_
            have e : lastB s d false vs = false := by
              rw [hat]
              split
              · rename_i h0
                have h2 := hb h0
                rw [show (max m 0).toNat = m.toNat by omega] at h2
                exact h2
              · rfl
            rw [if_neg (fun hc => by rw [e] at hc; cases hc.2), Int.add_zero] at y2
            rw [Bool.true_and]
            exact decide_eq_true y2
  · skip
    refine ACalls.of_W (qs := [cB true]) [8] 218 Try.func4 (by kernel_rfl) rfl rfl rfl fun G => ?_
    apply W.init (by repeat (first | exact InitE.nil | apply InitE.c0 | apply InitE.c1 | apply InitE.c2 | apply InitE.c3 | apply InitE.c4 | apply InitE.c5 | apply InitE.c6 | apply InitE.c7 | apply InitE.c8 | apply InitE.c9 | apply InitE.c10 | apply InitE.c11))
    repeat' (first
      | apply RG.nil
      | apply Lex.nil
      | apply Then.n
      | apply Then.r
      | apply Then.x
      | apply InBlock.n
      | apply InBlock.r
      | apply InBlock.hit
      | (apply InBlock.miss; exact rfl)
      | apply W.seq
      | apply W.region
      | apply W.block
      | apply W.skip
      | apply W.ret
      | apply W.exit
      | ((first | apply U_ | (apply Ug_; exact rfl; exact rfl) | (apply Ugq_; exact rfl; exact rfl) | apply Lex.u | (apply Lex.g; exact rfl; exact rfl) | (apply Lex.gq; exact rfl; exact rfl)); (first
    | (apply Q_move; (refine Ev.of rfl ?_; first | exact fun _ => trivial | exact id | exact And.right | exact And.left | exact fun h => h.1.2 | exact fun h => h.1.1 | exact fun h => h.1.1.1 | exact fun h => h.1.1.2))
    | (apply Q_assign; (refine Ev.of rfl ?_; first | exact fun _ => trivial | exact id | exact And.right | exact And.left | exact fun h => h.1.2 | exact fun h => h.1.1 | exact fun h => h.1.1.1 | exact fun h => h.1.1.2))
    | (apply Q_fieldp TYok; (refine Ev.of rfl ?_; first | exact fun _ => trivial | exact id | exact And.right | exact And.left | exact fun h => h.1.2 | exact fun h => h.1.1 | exact fun h => h.1.1.1 | exact fun h => h.1.1.2); exact rfl; exact rfl; exact rfl; exact rfl; exact rfl)
    | (apply Q_field TYok; (refine Ev.of rfl ?_; first | exact fun _ => trivial | exact id | exact And.right | exact And.left | exact fun h => h.1.2 | exact fun h => h.1.1 | exact fun h => h.1.1.1 | exact fun h => h.1.1.2); exact rfl; exact rfl; exact rfl; exact rfl; exact rfl)
    | (apply Q_loadp TYok; exact rfl; exact rfl; (refine Ev.of rfl ?_; first | exact fun _ => trivial | exact id | exact And.right | exact And.left | exact fun h => h.1.2 | exact fun h => h.1.1 | exact fun h => h.1.1.1 | exact fun h => h.1.1.2); exact rfl)
    | (apply Q_load TYok; exact rfl; exact rfl; (refine Ev.of rfl ?_; first | exact fun _ => trivial | exact id | exact And.right | exact And.left | exact fun h => h.1.2 | exact fun h => h.1.1 | exact fun h => h.1.1.1 | exact fun h => h.1.1.2); exact rfl; exact rfl; exact rfl)
    | (apply Q_loadm TYok; exact rfl; exact rfl; (refine Ev.of rfl ?_; first | exact fun _ => trivial | exact id | exact And.right | exact And.left | exact fun h => h.1.2 | exact fun h => h.1.1 | exact fun h => h.1.1.1 | exact fun h => h.1.1.2); exact rfl; (intro hg; first | omega | (simp; omega) | (simp at hg; simp; omega)); exact rfl; infer_instance)
    | (apply Q_loadpa TYok; exact rfl; exact rfl; (refine Ev.of rfl ?_; first | exact fun _ => trivial | exact id | exact And.right | exact And.left | exact fun h => h.1.2 | exact fun h => h.1.1 | exact fun h => h.1.1.1 | exact fun h => h.1.1.2); exact rfl)
    | (apply Q_loada TYok; exact rfl; exact rfl; (refine Ev.of rfl ?_; first | exact fun _ => trivial | exact id | exact And.right | exact And.left | exact fun h => h.1.2 | exact fun h => h.1.1 | exact fun h => h.1.1.1 | exact fun h => h.1.1.2); exact rfl; exact rfl; exact rfl)
    | (apply Q_loadma TYok; exact rfl; exact rfl; (refine Ev.of rfl ?_; first | exact fun _ => trivial | exact id | exact And.right | exact And.left | exact fun h => h.1.2 | exact fun h => h.1.1 | exact fun h => h.1.1.1 | exact fun h => h.1.1.2); exact rfl; (intro hg; first | omega | (simp; omega) | (simp at hg; simp; omega)); exact rfl; infer_instance)
    | (apply Q_add; (refine Ev.of rfl ?_; first | exact fun _ => trivial | exact id | exact And.right | exact And.left | exact fun h => h.1.2 | exact fun h => h.1.1 | exact fun h => h.1.1.1 | exact fun h => h.1.1.2); (refine Ev.of rfl ?_; first | exact fun _ => trivial | exact id | exact And.right | exact And.left | exact fun h => h.1.2 | exact fun h => h.1.1 | exact fun h => h.1.1.1 | exact fun h => h.1.1.2); (first | omega | (constructor <;> omega)))
    | (apply Q_sub; (refine Ev.of rfl ?_; first | exact fun _ => trivial | exact id | exact And.right | exact And.left | exact fun h => h.1.2 | exact fun h => h.1.1 | exact fun h => h.1.1.1 | exact fun h => h.1.1.2); (refine Ev.of rfl ?_; first | exact fun _ => trivial | exact id | exact And.right | exact And.left | exact fun h => h.1.2 | exact fun h => h.1.1 | exact fun h => h.1.1.1 | exact fun h => h.1.1.2); (first | omega | (constructor <;> omega)))
    | (apply Q_mul; (refine Ev.of rfl ?_; first | exact fun _ => trivial | exact id | exact And.right | exact And.left | exact fun h => h.1.2 | exact fun h => h.1.1 | exact fun h => h.1.1.1 | exact fun h => h.1.1.2); (refine Ev.of rfl ?_; first | exact fun _ => trivial | exact id | exact And.right | exact And.left | exact fun h => h.1.2 | exact fun h => h.1.1 | exact fun h => h.1.1.1 | exact fun h => h.1.1.2); (first | omega | (constructor <;> omega)))
    | (apply Q_quoN; (refine Ev.of rfl ?_; first | exact fun _ => trivial | exact id | exact And.right | exact And.left | exact fun h => h.1.2 | exact fun h => h.1.1 | exact fun h => h.1.1.1 | exact fun h => h.1.1.2); (refine Ev.of rfl ?_; first | exact fun _ => trivial | exact id | exact And.right | exact And.left | exact fun h => h.1.2 | exact fun h => h.1.1 | exact fun h => h.1.1.1 | exact fun h => h.1.1.2); (first | omega | (constructor <;> omega)))
    | (apply Q_remN; (refine Ev.of rfl ?_; first | exact fun _ => trivial | exact id | exact And.right | exact And.left | exact fun h => h.1.2 | exact fun h => h.1.1 | exact fun h => h.1.1.1 | exact fun h => h.1.1.2); (refine Ev.of rfl ?_; first | exact fun _ => trivial | exact id | exact And.right | exact And.left | exact fun h => h.1.2 | exact fun h => h.1.1 | exact fun h => h.1.1.1 | exact fun h => h.1.1.2); (first | omega | (constructor <;> omega)))
    | (apply Q_bin; (refine Ev.of rfl ?_; first | exact fun _ => trivial | exact id | exact And.right | exact And.left | exact fun h => h.1.2 | exact fun h => h.1.1 | exact fun h => h.1.1.1 | exact fun h => h.1.1.2); (refine Ev.of rfl ?_; first | exact fun _ => trivial | exact id | exact And.right | exact And.left | exact fun h => h.1.2 | exact fun h => h.1.1 | exact fun h => h.1.1.1 | exact fun h => h.1.1.2); exact rfl)
    | (apply Q_or; (refine Ev.of rfl ?_; first | exact fun _ => trivial | exact id | exact And.right | exact And.left | exact fun h => h.1.2 | exact fun h => h.1.1 | exact fun h => h.1.1.1 | exact fun h => h.1.1.2); (refine Ev.of rfl ?_; first | exact fun _ => trivial | exact id | exact And.right | exact And.left | exact fun h => h.1.2 | exact fun h => h.1.1 | exact fun h => h.1.1.1 | exact fun h => h.1.1.2))
    | (apply Q_and; (refine Ev.of rfl ?_; first | exact fun _ => trivial | exact id | exact And.right | exact And.left | exact fun h => h.1.2 | exact fun h => h.1.1 | exact fun h => h.1.1.1 | exact fun h => h.1.1.2); (refine Ev.of rfl ?_; first | exact fun _ => trivial | exact id | exact And.right | exact And.left | exact fun h => h.1.2 | exact fun h => h.1.1 | exact fun h => h.1.1.1 | exact fun h => h.1.1.2))
    | (apply Q_not; (refine Ev.of rfl ?_; first | exact fun _ => trivial | exact id | exact And.right | exact And.left | exact fun h => h.1.2 | exact fun h => h.1.1 | exact fun h => h.1.1.1 | exact fun h => h.1.1.2))
    | (apply Q_max; (refine Ev.of rfl ?_; first | exact fun _ => trivial | exact id | exact And.right | exact And.left | exact fun h => h.1.2 | exact fun h => h.1.1 | exact fun h => h.1.1.1 | exact fun h => h.1.1.2); (refine Ev.of rfl ?_; first | exact fun _ => trivial | exact id | exact And.right | exact And.left | exact fun h => h.1.2 | exact fun h => h.1.1 | exact fun h => h.1.1.1 | exact fun h => h.1.1.2))
    | (apply Q_min; (refine Ev.of rfl ?_; first | exact fun _ => trivial | exact id | exact And.right | exact And.left | exact fun h => h.1.2 | exact fun h => h.1.1 | exact fun h => h.1.1.1 | exact fun h => h.1.1.2); (refine Ev.of rfl ?_; first | exact fun _ => trivial | exact id | exact And.right | exact And.left | exact fun h => h.1.2 | exact fun h => h.1.1 | exact fun h => h.1.1.1 | exact fun h => h.1.1.2))
    | (apply Q_lenm TYok; (refine Ev.of rfl ?_; first | exact fun _ => trivial | exact id | exact And.right | exact And.left | exact fun h => h.1.2 | exact fun h => h.1.1 | exact fun h => h.1.1.1 | exact fun h => h.1.1.2); exact rfl; exact rfl)
    | (apply Q_lend TYok; (refine Ev.of rfl ?_; first | exact fun _ => trivial | exact id | exact And.right | exact And.left | exact fun h => h.1.2 | exact fun h => h.1.1 | exact fun h => h.1.1.1 | exact fun h => h.1.1.2); exact rfl; exact rfl)
    | (apply Q_lenom TYok; (refine Ev.of rfl ?_; first | exact fun _ => trivial | exact id | exact And.right | exact And.left | exact fun h => h.1.2 | exact fun h => h.1.1 | exact fun h => h.1.1.1 | exact fun h => h.1.1.2); exact rfl; exact rfl; exact rfl)
    | (apply Q_len TYok; (refine Ev.of rfl ?_; first | exact fun _ => trivial | exact id | exact And.right | exact And.left | exact fun h => h.1.2 | exact fun h => h.1.1 | exact fun h => h.1.1.1 | exact fun h => h.1.1.2); exact rfl; exact rfl; exact rfl)
    | (apply Q_len0 TYok; (refine Ev.of rfl ?_; first | exact fun _ => trivial | exact id | exact And.right | exact And.left | exact fun h => h.1.2 | exact fun h => h.1.1 | exact fun h => h.1.1.1 | exact fun h => h.1.1.2); exact rfl; exact rfl)
    | (apply Q_lens TYok; (refine Ev.of rfl ?_; first | exact fun _ => trivial | exact id | exact And.right | exact And.left | exact fun h => h.1.2 | exact fun h => h.1.1 | exact fun h => h.1.1.1 | exact fun h => h.1.1.2); exact rfl; exact rfl)
    | (apply Q_indexd TYok; (refine Ev.of rfl ?_; first | exact fun _ => trivial | exact id | exact And.right | exact And.left | exact fun h => h.1.2 | exact fun h => h.1.1 | exact fun h => h.1.1.1 | exact fun h => h.1.1.2); (refine Ev.of rfl ?_; first | exact fun _ => trivial | exact id | exact And.right | exact And.left | exact fun h => h.1.2 | exact fun h => h.1.1 | exact fun h => h.1.1.1 | exact fun h => h.1.1.2); exact rfl; exact rfl; exact rfl; (intro hg; first | exact getRowN (by first | omega | (simp at hg; omega)) | exact getRowI (by first | omega | (simp at hg; omega))); exact rfl)
    | (apply Q_index TYok; (refine Ev.of rfl ?_; first | exact fun _ => trivial | exact id | exact And.right | exact And.left | exact fun h => h.1.2 | exact fun h => h.1.1 | exact fun h => h.1.1.1 | exact fun h => h.1.1.2); (refine Ev.of rfl ?_; first | exact fun _ => trivial | exact id | exact And.right | exact And.left | exact fun h => h.1.2 | exact fun h => h.1.1 | exact fun h => h.1.1.1 | exact fun h => h.1.1.2); exact rfl; exact rfl; exact rfl; exact rfl; exact rfl; (intro hg; first | (simp; omega) | (simp at hg; simp; omega)))
    | (apply Q_binS; (refine Ev.of rfl ?_; first | exact fun _ => trivial | exact id | exact And.right | exact And.left | exact fun h => h.1.2 | exact fun h => h.1.1 | exact fun h => h.1.1.1 | exact fun h => h.1.1.2); (refine Ev.of rfl ?_; first | exact fun _ => trivial | exact id | exact And.right | exact And.left | exact fun h => h.1.2 | exact fun h => h.1.1 | exact fun h => h.1.1.1 | exact fun h => h.1.1.2); exact rfl)
    | (apply Q_binB TYok; (refine Ev.of rfl ?_; first | exact fun _ => trivial | exact id | exact And.right | exact And.left | exact fun h => h.1.2 | exact fun h => h.1.1 | exact fun h => h.1.1.1 | exact fun h => h.1.1.2); (refine Ev.of rfl ?_; first | exact fun _ => trivial | exact id | exact And.right | exact And.left | exact fun h => h.1.2 | exact fun h => h.1.1 | exact fun h => h.1.1.1 | exact fun h => h.1.1.2); exact rfl; exact rfl; exact rfl)
    | (apply Q_neg; (refine Ev.of rfl ?_; first | exact fun _ => trivial | exact id | exact And.right | exact And.left | exact fun h => h.1.2 | exact fun h => h.1.1 | exact fun h => h.1.1.1 | exact fun h => h.1.1.2); (first | omega | (constructor <;> omega)))
    | (apply Q_extract; (refine Ev.of rfl ?_; first | exact fun _ => trivial | exact id | exact And.right | exact And.left | exact fun h => h.1.2 | exact fun h => h.1.1 | exact fun h => h.1.1.1 | exact fun h => h.1.1.2); exact rfl)
    | (apply Q_convI TYok; exact rfl; exact rfl; exact rfl; exact rfl; (refine Ev.of rfl ?_; first | exact fun _ => trivial | exact id | exact And.right | exact And.left | exact fun h => h.1.2 | exact fun h => h.1.1 | exact fun h => h.1.1.1 | exact fun h => h.1.1.2); (first | omega | (constructor <;> omega)))
    | (apply Q_conv TYok; exact rfl; exact rfl; exact rfl; exact rfl; (refine Ev.of rfl ?_; first | exact fun _ => trivial | exact id | exact And.right | exact And.left | exact fun h => h.1.2 | exact fun h => h.1.1 | exact fun h => h.1.1.1 | exact fun h => h.1.1.2))
    | (apply Q_build TYok; (repeat (first | exact EvP.nil | apply EvP.cons (by refine Ev.of rfl ?_; first | exact fun _ => trivial | exact id | exact And.right | exact And.left | exact fun h => h.1.2 | exact fun h => h.1.1 | exact fun h => h.1.1.1 | exact fun h => h.1.1.2))); exact rfl; exact rfl; exact rfl; exact rfl)
    | (apply Q_call (small_ok); (repeat (first | exact EvL.nil | refine EvL.cons (by refine Ev.of rfl ?_; first | exact fun _ => trivial | exact id | exact And.right | exact And.left | exact fun h => h.1.2 | exact fun h => h.1.1 | exact fun h => h.1.1.1 | exact fun h => h.1.1.2) rfl (by first | exact PSub.rfl' | exact PSub.nil') ?_)); exact rfl)
    | (apply Q_call (rright_ok us vs); (repeat (first | exact EvL.nil | refine EvL.cons (by refine Ev.of rfl ?_; first | exact fun _ => trivial | exact id | exact And.right | exact And.left | exact fun h => h.1.2 | exact fun h => h.1.1 | exact fun h => h.1.1.1 | exact fun h => h.1.1.2) rfl (by first | exact PSub.rfl' | exact PSub.nil') ?_)); exact rfl)); exact rfl)
      | (apply S_alloc TYok; exact rfl; exact rfl; exact rfl; exact rfl)
      | (apply S_store TYok; (refine Ev.of rfl ?_; first | exact fun _ => trivial | exact id | exact And.right | exact And.left | exact fun h => h.1.2 | exact fun h => h.1.1 | exact fun h => h.1.1.1 | exact fun h => h.1.1.2); (refine Ev.of rfl ?_; first | exact fun _ => trivial | exact id | exact And.right | exact And.left | exact fun h => h.1.2 | exact fun h => h.1.1 | exact fun h => h.1.1.1 | exact fun h => h.1.1.2); exact rfl; exact rfl; exact rfl; exact rfl; exact rfl)
      | (apply S_storem TYok; (refine Ev.of rfl ?_; first | exact fun _ => trivial | exact id | exact And.right | exact And.left | exact fun h => h.1.2 | exact fun h => h.1.1 | exact fun h => h.1.1.1 | exact fun h => h.1.1.2); (refine Ev.of rfl ?_; first | exact fun _ => trivial | exact id | exact And.right | exact And.left | exact fun h => h.1.2 | exact fun h => h.1.1 | exact fun h => h.1.1.1 | exact fun h => h.1.1.2); exact rfl; exact rfl; (first | omega | (simp; omega)); exact rfl; (intro z; exact rfl))
      | (apply S_lit TYok; (repeat (first | exact EvR.nil | apply EvR.cons (by refine Ev.of rfl ?_; first | exact fun _ => trivial | exact id | exact And.right | exact And.left | exact fun h => h.1.2 | exact fun h => h.1.1 | exact fun h => h.1.1.1 | exact fun h => h.1.1.2))); exact rfl; exact rfl; exact rfl; exact rfl; exact rfl; exact rfl; exact rfl; exact rfl; exact rfl)
      | (apply S_make TYok; (refine Ev.of rfl ?_; first | exact fun _ => trivial | exact id | exact And.right | exact And.left | exact fun h => h.1.2 | exact fun h => h.1.1 | exact fun h => h.1.1.1 | exact fun h => h.1.1.2); (refine Ev.of rfl ?_; first | exact fun _ => trivial | exact id | exact And.right | exact And.left | exact fun h => h.1.2 | exact fun h => h.1.1 | exact fun h => h.1.1.1 | exact fun h => h.1.1.2); exact rfl; exact rfl; exact rfl; exact rfl; (refine ⟨by omega, by omega, by simp; omega, by omega⟩); exact rfl; exact rfl)
      | (apply S_append TYok; (refine Ev.of rfl ?_; first | exact fun _ => trivial | exact id | exact And.right | exact And.left | exact fun h => h.1.2 | exact fun h => h.1.1 | exact fun h => h.1.1.1 | exact fun h => h.1.1.2); (refine Ev.of rfl ?_; first | exact fun _ => trivial | exact id | exact And.right | exact And.left | exact fun h => h.1.2 | exact fun h => h.1.1 | exact fun h => h.1.1.1 | exact fun h => h.1.1.2); exact rfl; exact rfl; exact rfl; exact rfl; exact rfl; exact rfl; exact rfl; exact rfl; exact rfl; exact rfl; (constructor <;> simp <;> omega); exact rfl)
      | (apply S_append0 TYok; (refine Ev.of rfl ?_; first | exact fun _ => trivial | exact id | exact And.right | exact And.left | exact fun h => h.1.2 | exact fun h => h.1.1 | exact fun h => h.1.1.1 | exact fun h => h.1.1.2); (refine Ev.of rfl ?_; first | exact fun _ => trivial | exact id | exact And.right | exact And.left | exact fun h => h.1.2 | exact fun h => h.1.1 | exact fun h => h.1.1.1 | exact fun h => h.1.1.2); exact rfl; exact rfl; exact rfl; exact rfl; exact rfl; exact rfl; exact rfl; (constructor <;> simp <;> omega); exact rfl; exact rfl)
      | (apply S_box; (refine Ev.of rfl ?_; first | exact fun _ => trivial | exact id | exact And.right | exact And.left | exact fun h => h.1.2 | exact fun h => h.1.1 | exact fun h => h.1.1.1 | exact fun h => h.1.1.2); exact rfl; exact rfl)
      | (apply RG.gT; exact rfl; exact rfl; (first | assumption | decide))
      | (apply RG.gF; exact rfl; exact rfl; (first | assumption | decide); exact rfl)
      | (refine W.cond (by refine Ev.of rfl ?_; first | exact fun _ => trivial | exact id | exact And.right | exact And.left | exact fun h => h.1.2 | exact fun h => h.1.1 | exact fun h => h.1.1.1 | exact fun h => h.1.1.2) (fun hb => ?_) (fun hb => ?_) <;> (try simp at hb) <;> (try (exfalso; omega))))
    · exact Fin.retB rfl rfl
    · exact absurd ⟨by omega, by omega, hb.1.2, fun h0 => hb.2 (List.eq_nil_of_length_eq_zero h0)⟩ hl
end Go.Proofs.Ytanhmeedgophcaa
