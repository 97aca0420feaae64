/-
  VoteMajority: majorities that are reached.
-/
import Derived.Test.YtanhmeedgophcaaWalk5
import Derived.Test.YtanhmeedgophcaaLfRead
set_option linter.unusedVariables false
set_option linter.unusedSimpArgs false
set_option maxHeartbeats 8000000
namespace Go.Proofs.Ytanhmeedgophcaa
open Lf Go
attribute [local irreducible] PureOp EffOp Ev RG W Then InBlock Lf.Fin nth App InitE Pick SubE SubF SubG EvL EvD EvP EvR ResL Lex SubR SubBR

theorem bool_eq {a b : Bool} (h : a = true ↔ b = true) : a = b := by cases a <;> cases b <;> simp_all
theorem majority_ok (m y a k : Int) (hk : -9223372036854775808 ≤ k ∧ k ≤ 9223372036854775807) : ACalls Try.prog 6 [cI m, cI y, cI a, cI k] (.pv (cB true)) := by
  by_cases h : fineF m y a = true
  · have h1 := fineF_iff.1 h
    have h2 := prod_le (m := m) (a := a) (by omega)
    have hf : ∀ z, 0 ≤ z → z ≤ a → (reachF m z a = true ↔ 1000 * z ≥ m * a) := fun z hz hz' => by
      rw [reachF, fineF_iff.2 (by omega)]; simp
    have h3 : m * a ≤ 1000 * a := Int.mul_le_mul_of_nonneg_right (by omega) (by omega)
    have hM : missF m y a = max ((m * a + 999) / 1000 - y) 0 := by rw [missF, if_pos h]
    have hM1 : 0 ≤ missF m y a ∧ y + missF m y a ≤ a := by rw [hM]; omega
    have hy := hf y (by omega) (by omega)
    have hyM := hf (y + missF m y a) (by omega) (by omega)
    have hyM1 := fun h0 : 0 < missF m y a => hf (y + missF m y a - 1) (by omega) (by omega)
    have g1 : reachF m (y + missF m y a) a = true := hyM.2 (by omega)
    have g2 : 0 < missF m y a → reachF m (y + missF m y a - 1) a = false := fun h0 => by
      cases hr : reachF m (y + missF m y a - 1) a with
      | false => rfl
      | true => have := (hyM1 h0).1 hr; omega
    have g3 : reachF m y a = decide (missF m y a = 0) := bool_eq (by rw [hy]; simp; omega)
    refine ACalls.of_W (qs := [cB true]) [8] 133 Try.func6 (by kernel_rfl) rfl rfl rfl fun G => ?_
    apply W.init (by repeat (first | exact InitE.nil | apply InitE.c0 | apply InitE.c1 | apply InitE.c2 | apply InitE.c3 | apply InitE.c4 | apply InitE.c5 | apply InitE.c6 | apply InitE.c7 | apply InitE.c8 | apply InitE.c9 | apply InitE.c10 | apply InitE.c11))
    repeat' (first
      | apply RG.nil
      | apply Lex.nil
      | apply Then.n
      | apply Then.r
      | apply Then.x
      | apply InBlock.n
      | apply InBlock.r
      | apply InBlock.hit
      | (apply InBlock.miss; exact rfl)
      | apply W.seq
      | apply W.region
      | apply W.block
      | apply W.skip
      | apply W.ret
      | apply W.exit
      | ((first | apply U_ | (apply Ug_; exact rfl; exact rfl) | (apply Ugq_; exact rfl; exact rfl) | apply Lex.u | (apply Lex.g; exact rfl; exact rfl) | (apply Lex.gq; exact rfl; exact rfl)); (first
    | (apply Q_move; (refine Ev.of rfl ?_; first | exact fun _ => trivial | exact id | exact And.right | exact And.left | exact fun h => h.1.2 | exact fun h => h.1.1 | exact fun h => h.1.1.1 | exact fun h => h.1.1.2))
    | (apply Q_assign; (refine Ev.of rfl ?_; first | exact fun _ => trivial | exact id | exact And.right | exact And.left | exact fun h => h.1.2 | exact fun h => h.1.1 | exact fun h => h.1.1.1 | exact fun h => h.1.1.2))
    | (apply Q_fieldp TYok; (refine Ev.of rfl ?_; first | exact fun _ => trivial | exact id | exact And.right | exact And.left | exact fun h => h.1.2 | exact fun h => h.1.1 | exact fun h => h.1.1.1 | exact fun h => h.1.1.2); exact rfl; exact rfl; exact rfl; exact rfl; exact rfl)
    | (apply Q_field TYok; (refine Ev.of rfl ?_; first | exact fun _ => trivial | exact id | exact And.right | exact And.left | exact fun h => h.1.2 | exact fun h => h.1.1 | exact fun h => h.1.1.1 | exact fun h => h.1.1.2); exact rfl; exact rfl; exact rfl; exact rfl; exact rfl)
    | (apply Q_loadp TYok; exact rfl; exact rfl; (refine Ev.of rfl ?_; first | exact fun _ => trivial | exact id | exact And.right | exact And.left | exact fun h => h.1.2 | exact fun h => h.1.1 | exact fun h => h.1.1.1 | exact fun h => h.1.1.2); exact rfl)
    | (apply Q_load TYok; exact rfl; exact rfl; (refine Ev.of rfl ?_; first | exact fun _ => trivial | exact id | exact And.right | exact And.left | exact fun h => h.1.2 | exact fun h => h.1.1 | exact fun h => h.1.1.1 | exact fun h => h.1.1.2); exact rfl; exact rfl; exact rfl)
    | (apply Q_loadm TYok; exact rfl; exact rfl; (refine Ev.of rfl ?_; first | exact fun _ => trivial | exact id | exact And.right | exact And.left | exact fun h => h.1.2 | exact fun h => h.1.1 | exact fun h => h.1.1.1 | exact fun h => h.1.1.2); exact rfl; (intro hg; first | omega | (simp; omega) | (simp at hg; simp; omega)); exact rfl; infer_instance)
    | (apply Q_loadpa TYok; exact rfl; exact rfl; (refine Ev.of rfl ?_; first | exact fun _ => trivial | exact id | exact And.right | exact And.left | exact fun h => h.1.2 | exact fun h => h.1.1 | exact fun h => h.1.1.1 | exact fun h => h.1.1.2); exact rfl)
    | (apply Q_loada TYok; exact rfl; exact rfl; (refine Ev.of rfl ?_; first | exact fun _ => trivial | exact id | exact And.right | exact And.left | exact fun h => h.1.2 | exact fun h => h.1.1 | exact fun h => h.1.1.1 | exact fun h => h.1.1.2); exact rfl; exact rfl; exact rfl)
    | (apply Q_loadma TYok; exact rfl; exact rfl; (refine Ev.of rfl ?_; first | exact fun _ => trivial | exact id | exact And.right | exact And.left | exact fun h => h.1.2 | exact fun h => h.1.1 | exact fun h => h.1.1.1 | exact fun h => h.1.1.2); exact rfl; (intro hg; first | omega | (simp; omega) | (simp at hg; simp; omega)); exact rfl; infer_instance)
    | (apply Q_add; (refine Ev.of rfl ?_; first | exact fun _ => trivial | exact id | exact And.right | exact And.left | exact fun h => h.1.2 | exact fun h => h.1.1 | exact fun h => h.1.1.1 | exact fun h => h.1.1.2); (refine Ev.of rfl ?_; first | exact fun _ => trivial | exact id | exact And.right | exact And.left | exact fun h => h.1.2 | exact fun h => h.1.1 | exact fun h => h.1.1.1 | exact fun h => h.1.1.2); (first | omega | (constructor <;> omega)))
    | (apply Q_sub; (refine Ev.of rfl ?_; first | exact fun _ => trivial | exact id | exact And.right | exact And.left | exact fun h => h.1.2 | exact fun h => h.1.1 | exact fun h => h.1.1.1 | exact fun h => h.1.1.2); (refine Ev.of rfl ?_; first | exact fun _ => trivial | exact id | exact And.right | exact And.left | exact fun h => h.1.2 | exact fun h => h.1.1 | exact fun h => h.1.1.1 | exact fun h => h.1.1.2); (first | omega | (constructor <;> omega)))
    | (apply Q_mul; (refine Ev.of rfl ?_; first | exact fun _ => trivial | exact id | exact And.right | exact And.left | exact fun h => h.1.2 | exact fun h => h.1.1 | exact fun h => h.1.1.1 | exact fun h => h.1.1.2); (refine Ev.of rfl ?_; first | exact fun _ => trivial | exact id | exact And.right | exact And.left | exact fun h => h.1.2 | exact fun h => h.1.1 | exact fun h => h.1.1.1 | exact fun h => h.1.1.2); (first | omega | (constructor <;> omega)))
    | (apply Q_quoN; (refine Ev.of rfl ?_; first | exact fun _ => trivial | exact id | exact And.right | exact And.left | exact fun h => h.1.2 | exact fun h => h.1.1 | exact fun h => h.1.1.1 | exact fun h => h.1.1.2); (refine Ev.of rfl ?_; first | exact fun _ => trivial | exact id | exact And.right | exact And.left | exact fun h => h.1.2 | exact fun h => h.1.1 | exact fun h => h.1.1.1 | exact fun h => h.1.1.2); (first | omega | (constructor <;> omega)))
    | (apply Q_remN; (refine Ev.of rfl ?_; first | exact fun _ => trivial | exact id | exact And.right | exact And.left | exact fun h => h.1.2 | exact fun h => h.1.1 | exact fun h => h.1.1.1 | exact fun h => h.1.1.2); (refine Ev.of rfl ?_; first | exact fun _ => trivial | exact id | exact And.right | exact And.left | exact fun h => h.1.2 | exact fun h => h.1.1 | exact fun h => h.1.1.1 | exact fun h => h.1.1.2); (first | omega | (constructor <;> omega)))
    | (apply Q_bin; (refine Ev.of rfl ?_; first | exact fun _ => trivial | exact id | exact And.right | exact And.left | exact fun h => h.1.2 | exact fun h => h.1.1 | exact fun h => h.1.1.1 | exact fun h => h.1.1.2); (refine Ev.of rfl ?_; first | exact fun _ => trivial | exact id | exact And.right | exact And.left | exact fun h => h.1.2 | exact fun h => h.1.1 | exact fun h => h.1.1.1 | exact fun h => h.1.1.2); exact rfl)
    | (apply Q_or; (refine Ev.of rfl ?_; first | exact fun _ => trivial | exact id | exact And.right | exact And.left | exact fun h => h.1.2 | exact fun h => h.1.1 | exact fun h => h.1.1.1 | exact fun h => h.1.1.2); (refine Ev.of rfl ?_; first | exact fun _ => trivial | exact id | exact And.right | exact And.left | exact fun h => h.1.2 | exact fun h => h.1.1 | exact fun h => h.1.1.1 | exact fun h => h.1.1.2))
    | (apply Q_and; (refine Ev.of rfl ?_; first | exact fun _ => trivial | exact id | exact And.right | exact And.left | exact fun h => h.1.2 | exact fun h => h.1.1 | exact fun h => h.1.1.1 | exact fun h => h.1.1.2); (refine Ev.of rfl ?_; first | exact fun _ => trivial | exact id | exact And.right | exact And.left | exact fun h => h.1.2 | exact fun h => h.1.1 | exact fun h => h.1.1.1 | exact fun h => h.1.1.2))
    | (apply Q_not; (refine Ev.of rfl ?_; first | exact fun _ => trivial | exact id | exact And.right | exact And.left | exact fun h => h.1.2 | exact fun h => h.1.1 | exact fun h => h.1.1.1 | exact fun h => h.1.1.2))
    | (apply Q_max; (refine Ev.of rfl ?_; first | exact fun _ => trivial | exact id | exact And.right | exact And.left | exact fun h => h.1.2 | exact fun h => h.1.1 | exact fun h => h.1.1.1 | exact fun h => h.1.1.2); (refine Ev.of rfl ?_; first | exact fun _ => trivial | exact id | exact And.right | exact And.left | exact fun h => h.1.2 | exact fun h => h.1.1 | exact fun h => h.1.1.1 | exact fun h => h.1.1.2))
    | (apply Q_min; (refine Ev.of rfl ?_; first | exact fun _ => trivial | exact id | exact And.right | exact And.left | exact fun h => h.1.2 | exact fun h => h.1.1 | exact fun h => h.1.1.1 | exact fun h => h.1.1.2); (refine Ev.of rfl ?_; first | exact fun _ => trivial | exact id | exact And.right | exact And.left | exact fun h => h.1.2 | exact fun h => h.1.1 | exact fun h => h.1.1.1 | exact fun h => h.1.1.2))
    | (apply Q_lenm TYok; (refine Ev.of rfl ?_; first | exact fun _ => trivial | exact id | exact And.right | exact And.left | exact fun h => h.1.2 | exact fun h => h.1.1 | exact fun h => h.1.1.1 | exact fun h => h.1.1.2); exact rfl; exact rfl)
    | (apply Q_lend TYok; (refine Ev.of rfl ?_; first | exact fun _ => trivial | exact id | exact And.right | exact And.left | exact fun h => h.1.2 | exact fun h => h.1.1 | exact fun h => h.1.1.1 | exact fun h => h.1.1.2); exact rfl; exact rfl)
    | (apply Q_lenom TYok; (refine Ev.of rfl ?_; first | exact fun _ => trivial | exact id | exact And.right | exact And.left | exact fun h => h.1.2 | exact fun h => h.1.1 | exact fun h => h.1.1.1 | exact fun h => h.1.1.2); exact rfl; exact rfl; exact rfl)
    | (apply Q_len TYok; (refine Ev.of rfl ?_; first | exact fun _ => trivial | exact id | exact And.right | exact And.left | exact fun h => h.1.2 | exact fun h => h.1.1 | exact fun h => h.1.1.1 | exact fun h => h.1.1.2); exact rfl; exact rfl; exact rfl)
    | (apply Q_len0 TYok; (refine Ev.of rfl ?_; first | exact fun _ => trivial | exact id | exact And.right | exact And.left | exact fun h => h.1.2 | exact fun h => h.1.1 | exact fun h => h.1.1.1 | exact fun h => h.1.1.2); exact rfl; exact rfl)
    | (apply Q_lens TYok; (refine Ev.of rfl ?_; first | exact fun _ => trivial | exact id | exact And.right | exact And.left | exact fun h => h.1.2 | exact fun h => h.1.1 | exact fun h => h.1.1.1 | exact fun h => h.1.1.2); exact rfl; exact rfl)
    | (apply Q_indexd TYok; (refine Ev.of rfl ?_; first | exact fun _ => trivial | exact id | exact And.right | exact And.left | exact fun h => h.1.2 | exact fun h => h.1.1 | exact fun h => h.1.1.1 | exact fun h => h.1.1.2); (refine Ev.of rfl ?_; first | exact fun _ => trivial | exact id | exact And.right | exact And.left | exact fun h => h.1.2 | exact fun h => h.1.1 | exact fun h => h.1.1.1 | exact fun h => h.1.1.2); exact rfl; exact rfl; exact rfl; (intro hg; first | exact getRowN (by first | omega | (simp at hg; omega)) | exact getRowI (by first | omega | (simp at hg; omega))); exact rfl)
    | (apply Q_index TYok; (refine Ev.of rfl ?_; first | exact fun _ => trivial | exact id | exact And.right | exact And.left | exact fun h => h.1.2 | exact fun h => h.1.1 | exact fun h => h.1.1.1 | exact fun h => h.1.1.2); (refine Ev.of rfl ?_; first | exact fun _ => trivial | exact id | exact And.right | exact And.left | exact fun h => h.1.2 | exact fun h => h.1.1 | exact fun h => h.1.1.1 | exact fun h => h.1.1.2); exact rfl; exact rfl; exact rfl; exact rfl; exact rfl; (intro hg; first | (simp; omega) | (simp at hg; simp; omega)))
    | (apply Q_binS; (refine Ev.of rfl ?_; first | exact fun _ => trivial | exact id | exact And.right | exact And.left | exact fun h => h.1.2 | exact fun h => h.1.1 | exact fun h => h.1.1.1 | exact fun h => h.1.1.2); (refine Ev.of rfl ?_; first | exact fun _ => trivial | exact id | exact And.right | exact And.left | exact fun h => h.1.2 | exact fun h => h.1.1 | exact fun h => h.1.1.1 | exact fun h => h.1.1.2); exact rfl)
    | (apply Q_binB TYok; (refine Ev.of rfl ?_; first | exact fun _ => trivial | exact id | exact And.right | exact And.left | exact fun h => h.1.2 | exact fun h => h.1.1 | exact fun h => h.1.1.1 | exact fun h => h.1.1.2); (refine Ev.of rfl ?_; first | exact fun _ => trivial | exact id | exact And.right | exact And.left | exact fun h => h.1.2 | exact fun h => h.1.1 | exact fun h => h.1.1.1 | exact fun h => h.1.1.2); exact rfl; exact rfl; exact rfl)
    | (apply Q_neg; (refine Ev.of rfl ?_; first | exact fun _ => trivial | exact id | exact And.right | exact And.left | exact fun h => h.1.2 | exact fun h => h.1.1 | exact fun h => h.1.1.1 | exact fun h => h.1.1.2); (first | omega | (constructor <;> omega)))
    | (apply Q_extract; (refine Ev.of rfl ?_; first | exact fun _ => trivial | exact id | exact And.right | exact And.left | exact fun h => h.1.2 | exact fun h => h.1.1 | exact fun h => h.1.1.1 | exact fun h => h.1.1.2); exact rfl)
    | (apply Q_convI TYok; exact rfl; exact rfl; exact rfl; exact rfl; (refine Ev.of rfl ?_; first | exact fun _ => trivial | exact id | exact And.right | exact And.left | exact fun h => h.1.2 | exact fun h => h.1.1 | exact fun h => h.1.1.1 | exact fun h => h.1.1.2); (first | omega | (constructor <;> omega)))
    | (apply Q_conv TYok; exact rfl; exact rfl; exact rfl; exact rfl; (refine Ev.of rfl ?_; first | exact fun _ => trivial | exact id | exact And.right | exact And.left | exact fun h => h.1.2 | exact fun h => h.1.1 | exact fun h => h.1.1.1 | exact fun h => h.1.1.2))
    | (apply Q_build TYok; (repeat (first | exact EvP.nil | apply EvP.cons (by refine Ev.of rfl ?_; first | exact fun _ => trivial | exact id | exact And.right | exact And.left | exact fun h => h.1.2 | exact fun h => h.1.1 | exact fun h => h.1.1.1 | exact fun h => h.1.1.2))); exact rfl; exact rfl; exact rfl; exact rfl)
    | (apply Q_call (small_ok); (repeat (first | exact EvL.nil | refine EvL.cons (by refine Ev.of rfl ?_; first | exact fun _ => trivial | exact id | exact And.right | exact And.left | exact fun h => h.1.2 | exact fun h => h.1.1 | exact fun h => h.1.1.1 | exact fun h => h.1.1.2) rfl (by first | exact PSub.rfl' | exact PSub.nil') ?_)); exact rfl)
    | (apply Q_call (missing_ok m y a); (repeat (first | exact EvL.nil | refine EvL.cons (by refine Ev.of rfl ?_; first | exact fun _ => trivial | exact id | exact And.right | exact And.left | exact fun h => h.1.2 | exact fun h => h.1.1 | exact fun h => h.1.1.1 | exact fun h => h.1.1.2) rfl (by first | exact PSub.rfl' | exact PSub.nil') ?_)); exact rfl)
    | (apply Q_call (reached_ok m y a); (repeat (first | exact EvL.nil | refine EvL.cons (by refine Ev.of rfl ?_; first | exact fun _ => trivial | exact id | exact And.right | exact And.left | exact fun h => h.1.2 | exact fun h => h.1.1 | exact fun h => h.1.1.1 | exact fun h => h.1.1.2) rfl (by first | exact PSub.rfl' | exact PSub.nil') ?_)); exact rfl)
    | (apply Q_call (reached_ok m (y + missF m y a) a); (repeat (first | exact EvL.nil | refine EvL.cons (by refine Ev.of rfl ?_; first | exact fun _ => trivial | exact id | exact And.right | exact And.left | exact fun h => h.1.2 | exact fun h => h.1.1 | exact fun h => h.1.1.1 | exact fun h => h.1.1.2) rfl (by first | exact PSub.rfl' | exact PSub.nil') ?_)); exact rfl)
    | (apply Q_call (reached_ok m (y + missF m y a - 1) a); (repeat (first | exact EvL.nil | refine EvL.cons (by refine Ev.of rfl ?_; first | exact fun _ => trivial | exact id | exact And.right | exact And.left | exact fun h => h.1.2 | exact fun h => h.1.1 | exact fun h => h.1.1.1 | exact fun h => h.1.1.2) rfl (by first | exact PSub.rfl' | exact PSub.nil') ?_)); exact rfl)
    | (apply Q_call (reached_ok m (y + k) a); (repeat (first | exact EvL.nil | refine EvL.cons (by refine Ev.of rfl ?_; first | exact fun _ => trivial | exact id | exact And.right | exact And.left | exact fun h => h.1.2 | exact fun h => h.1.1 | exact fun h => h.1.1.1 | exact fun h => h.1.1.2) rfl (by first | exact PSub.rfl' | exact PSub.nil') ?_)); exact rfl)
    | (apply Q_call (reached_ok m k a); (repeat (first | exact EvL.nil | refine EvL.cons (by refine Ev.of rfl ?_; first | exact fun _ => trivial | exact id | exact And.right | exact And.left | exact fun h => h.1.2 | exact fun h => h.1.1 | exact fun h => h.1.1.1 | exact fun h => h.1.1.2) rfl (by first | exact PSub.rfl' | exact PSub.nil') ?_)); exact rfl)); exact rfl)
      | (apply S_alloc TYok; exact rfl; exact rfl; exact rfl; exact rfl)
      | (apply S_store TYok; (refine Ev.of rfl ?_; first | exact fun _ => trivial | exact id | exact And.right | exact And.left | exact fun h => h.1.2 | exact fun h => h.1.1 | exact fun h => h.1.1.1 | exact fun h => h.1.1.2); (refine Ev.of rfl ?_; first | exact fun _ => trivial | exact id | exact And.right | exact And.left | exact fun h => h.1.2 | exact fun h => h.1.1 | exact fun h => h.1.1.1 | exact fun h => h.1.1.2); exact rfl; exact rfl; exact rfl; exact rfl; exact rfl)
      | (apply S_storem TYok; (refine Ev.of rfl ?_; first | exact fun _ => trivial | exact id | exact And.right | exact And.left | exact fun h => h.1.2 | exact fun h => h.1.1 | exact fun h => h.1.1.1 | exact fun h => h.1.1.2); (refine Ev.of rfl ?_; first | exact fun _ => trivial | exact id | exact And.right | exact And.left | exact fun h => h.1.2 | exact fun h => h.1.1 | exact fun h => h.1.1.1 | exact fun h => h.1.1.2); exact rfl; exact rfl; (first | omega | (simp; omega)); exact rfl; (intro z; exact rfl))
      | (apply S_lit TYok; (repeat (first | exact EvR.nil | apply EvR.cons (by refine Ev.of rfl ?_; first | exact fun _ => trivial | exact id | exact And.right | exact And.left | exact fun h => h.1.2 | exact fun h => h.1.1 | exact fun h => h.1.1.1 | exact fun h => h.1.1.2))); exact rfl; exact rfl; exact rfl; exact rfl; exact rfl; exact rfl; exact rfl; exact rfl; exact rfl)
      | (apply S_make TYok; (refine Ev.of rfl ?_; first | exact fun _ => trivial | exact id | exact And.right | exact And.left | exact fun h => h.1.2 | exact fun h => h.1.1 | exact fun h => h.1.1.1 | exact fun h => h.1.1.2); (refine Ev.of rfl ?_; first | exact fun _ => trivial | exact id | exact And.right | exact And.left | exact fun h => h.1.2 | exact fun h => h.1.1 | exact fun h => h.1.1.1 | exact fun h => h.1.1.2); exact rfl; exact rfl; exact rfl; exact rfl; (refine ⟨by omega, by omega, by simp; omega, by omega⟩); exact rfl; exact rfl)
      | (apply S_append TYok; (refine Ev.of rfl ?_; first | exact fun _ => trivial | exact id | exact And.right | exact And.left | exact fun h => h.1.2 | exact fun h => h.1.1 | exact fun h => h.1.1.1 | exact fun h => h.1.1.2); (refine Ev.of rfl ?_; first | exact fun _ => trivial | exact id | exact And.right | exact And.left | exact fun h => h.1.2 | exact fun h => h.1.1 | exact fun h => h.1.1.1 | exact fun h => h.1.1.2); exact rfl; exact rfl; exact rfl; exact rfl; exact rfl; exact rfl; exact rfl; exact rfl; exact rfl; exact rfl; (constructor <;> simp <;> omega); exact rfl)
      | (apply S_append0 TYok; (refine Ev.of rfl ?_; first | exact fun _ => trivial | exact id | exact And.right | exact And.left | exact fun h => h.1.2 | exact fun h => h.1.1 | exact fun h => h.1.1.1 | exact fun h => h.1.1.2); (refine Ev.of rfl ?_; first | exact fun _ => trivial | exact id | exact And.right | exact And.left | exact fun h => h.1.2 | exact fun h => h.1.1 | exact fun h => h.1.1.1 | exact fun h => h.1.1.2); exact rfl; exact rfl; exact rfl; exact rfl; exact rfl; exact rfl; exact rfl; (constructor <;> simp <;> omega); exact rfl; exact rfl)
      | (apply S_box; (refine Ev.of rfl ?_; first | exact fun _ => trivial | exact id | exact And.right | exact And.left | exact fun h => h.1.2 | exact fun h => h.1.1 | exact fun h => h.1.1.1 | exact fun h => h.1.1.2); exact rfl; exact rfl)
      | (apply RG.gT; exact rfl; exact rfl; (first | assumption | decide))
      | (apply RG.gF; exact rfl; exact rfl; (first | assumption | decide); exact rfl)
      | (refine W.cond (by refine Ev.of rfl ?_; first | exact fun _ => trivial | exact id | exact And.right | exact And.left | exact fun h => h.1.2 | exact fun h => h.1.1 | exact fun h => h.1.1.1 | exact fun h => h.1.1.2) (fun hb => ?_) (fun hb => ?_) <;> (try simp at hb) <;> (try (exfalso; omega))))
    · exfalso
      rcases hb with (((hb | hb) | hb) | hb) | ⟨h0, hb⟩
      · omega
      · omega
      · exact hb g3
      · rw [g1] at hb; cases hb
      · rw [g2 h0] at hb; cases hb
    · exact Fin.retB rfl rfl
    · exfalso
      have e1 := hy.1 hb.1
      have e2 := (hf (y + k) (by omega) (by omega)).2 (by omega)
      rw [e2] at hb; cases hb.2
    · refine Fin.retB rfl ?_
      cases e1 : reachF m y a with
      | false => simp
      | true =>
        cases e2 : reachF m k a with
        | false => simp
        | true =>
          have f1 := hy.1 e1
          have f2 := (hf k (by omega) (by omega)).1 e2
          by_cases hm : m ≤ 500
          · simp [hm]
          · have : 501 * a ≤ m * a := Int.mul_le_mul_of_nonneg_right (by omega) (by omega)
            omega
  · have h1 : ¬ _ := fun hh => h (fineF_iff.2 hh)
    have hM : missF m y a = -1 := by rw [missF, if_neg h]
    have hr : reachF m y a = false := by unfold reachF; simp at h; rw [h]; rfl
    refine ACalls.of_W (qs := [cB true]) [8] 133 Try.func6 (by kernel_rfl) rfl rfl rfl fun G => ?_
    apply W.init (by repeat (first | exact InitE.nil | apply InitE.c0 | apply InitE.c1 | apply InitE.c2 | apply InitE.c3 | apply InitE.c4 | apply InitE.c5 | apply InitE.c6 | apply InitE.c7 | apply InitE.c8 | apply InitE.c9 | apply InitE.c10 | apply InitE.c11))
    repeat' (first
      | apply RG.nil
      | apply Lex.nil
      | apply Then.n
      | apply Then.r
      | apply Then.x
      | apply InBlock.n
      | apply InBlock.r
      | apply InBlock.hit
      | (apply InBlock.miss; exact rfl)
      | apply W.seq
      | apply W.region
      | apply W.block
      | apply W.skip
      | apply W.ret
      | apply W.exit
      | ((first | apply U_ | (apply Ug_; exact rfl; exact rfl) | (apply Ugq_; exact rfl; exact rfl) | apply Lex.u | (apply Lex.g; exact rfl; exact rfl) | (apply Lex.gq; exact rfl; exact rfl)); (first
    | (apply Q_move; (refine Ev.of rfl ?_; first | exact fun _ => trivial | exact id | exact And.right | exact And.left | exact fun h => h.1.2 | exact fun h => h.1.1 | exact fun h => h.1.1.1 | exact fun h => h.1.1.2))
    | (apply Q_assign; (refine Ev.of rfl ?_; first | exact fun _ => trivial | exact id | exact And.right | exact And.left | exact fun h => h.1.2 | exact fun h => h.1.1 | exact fun h => h.1.1.1 | exact fun h => h.1.1.2))
    | (apply Q_fieldp TYok; (refine Ev.of rfl ?_; first | exact fun _ => trivial | exact id | exact And.right | exact And.left | exact fun h => h.1.2 | exact fun h => h.1.1 | exact fun h => h.1.1.1 | exact fun h => h.1.1.2); exact rfl; exact rfl; exact rfl; exact rfl; exact rfl)
    | (apply Q_field TYok; (refine Ev.of rfl ?_; first | exact fun _ => trivial | exact id | exact And.right | exact And.left | exact fun h => h.1.2 | exact fun h => h.1.1 | exact fun h => h.1.1.1 | exact fun h => h.1.1.2); exact rfl; exact rfl; exact rfl; exact rfl; exact rfl)
    | (apply Q_loadp TYok; exact rfl; exact rfl; (refine Ev.of rfl ?_; first | exact fun _ => trivial | exact id | exact And.right | exact And.left | exact fun h => h.1.2 | exact fun h => h.1.1 | exact fun h => h.1.1.1 | exact fun h => h.1.1.2); exact rfl)
    | (apply Q_load TYok; exact rfl; exact rfl; (refine Ev.of rfl ?_; first | exact fun _ => trivial | exact id | exact And.right | exact And.left | exact fun h => h.1.2 | exact fun h => h.1.1 | exact fun h => h.1.1.1 | exact fun h => h.1.1.2); exact rfl; exact rfl; exact rfl)
    | (apply Q_loadm TYok; exact rfl; exact rfl; (refine Ev.of rfl ?_; first | exact fun _ => trivial | exact id | exact And.right | exact And.left | exact fun h => h.1.2 | exact fun h => h.1.1 | exact fun h => h.1.1.1 | exact fun h => h.1.1.2); exact rfl; (intro hg; first | omega | (simp; omega) | (simp at hg; simp; omega)); exact rfl; infer_instance)
    | (apply Q_loadpa TYok; exact rfl; exact rfl; (refine Ev.of rfl ?_; first | exact fun _ => trivial | exact id | exact And.right | exact And.left | exact fun h => h.1.2 | exact fun h => h.1.1 | exact fun h => h.1.1.1 | exact fun h => h.1.1.2); exact rfl)
    | (apply Q_loada TYok; exact rfl; exact rfl; (refine Ev.of rfl ?_; first | exact fun _ => trivial | exact id | exact And.right | exact And.left | exact fun h => h.1.2 | exact fun h => h.1.1 | exact fun h => h.1.1.1 | exact fun h => h.1.1.2); exact rfl; exact rfl; exact rfl)
    | (apply Q_loadma TYok; exact rfl; exact rfl; (refine Ev.of rfl ?_; first | exact fun _ => trivial | exact id | exact And.right | exact And.left | exact fun h => h.1.2 | exact fun h => h.1.1 | exact fun h => h.1.1.1 | exact fun h => h.1.1.2); exact rfl; (intro hg; first | omega | (simp; omega) | (simp at hg; simp; omega)); exact rfl; infer_instance)
    | (apply Q_add; (refine Ev.of rfl ?_; first | exact fun _ => trivial | exact id | exact And.right | exact And.left | exact fun h => h.1.2 | exact fun h => h.1.1 | exact fun h => h.1.1.1 | exact fun h => h.1.1.2); (refine Ev.of rfl ?_; first | exact fun _ => trivial | exact id | exact And.right | exact And.left | exact fun h => h.1.2 | exact fun h => h.1.1 | exact fun h => h.1.1.1 | exact fun h => h.1.1.2); (first | omega | (constructor <;> omega)))
    | (apply Q_sub; (refine Ev.of rfl ?_; first | exact fun _ => trivial | exact id | exact And.right | exact And.left | exact fun h => h.1.2 | exact fun h => h.1.1 | exact fun h => h.1.1.1 | exact fun h => h.1.1.2); (refine Ev.of rfl ?_; first | exact fun _ => trivial | exact id | exact And.right | exact And.left | exact fun h => h.1.2 | exact fun h => h.1.1 | exact fun h => h.1.1.1 | exact fun h => h.1.1.2); (first | omega | (constructor <;> omega)))
    | (apply Q_mul; (refine Ev.of rfl ?_; first | exact fun _ => trivial | exact id | exact And.right | exact And.left | exact fun h => h.1.2 | exact fun h => h.1.1 | exact fun h => h.1.1.1 | exact fun h => h.1.1.2); (refine Ev.of rfl ?_; first | exact fun _ => trivial | exact id | exact And.right | exact And.left | exact fun h => h.1.2 | exact fun h => h.1.1 | exact fun h => h.1.1.1 | exact fun h => h.1.1.2); (first | omega | (constructor <;> omega)))
    | (apply Q_quoN; (refine Ev.of rfl ?_; first | exact fun _ => trivial | exact id | exact And.right | exact And.left | exact fun h => h.1.2 | exact fun h => h.1.1 | exact fun h => h.1.1.1 | exact fun h => h.1.1.2); (refine Ev.of rfl ?_; first | exact fun _ => trivial | exact id | exact And.right | exact And.left | exact fun h => h.1.2 | exact fun h => h.1.1 | exact fun h => h.1.1.1 | exact fun h => h.1.1.2); (first | omega | (constructor <;> omega)))
    | (apply Q_remN; (refine Ev.of rfl ?_; first | exact fun _ => trivial | exact id | exact And.right | exact And.left | exact fun h => h.1.2 | exact fun h => h.1.1 | exact fun h => h.1.1.1 | exact fun h => h.1.1.2); (refine Ev.of rfl ?_; first | exact fun _ => trivial | exact id | exact And.right | exact And.left | exact fun h => h.1.2 | exact fun h => h.1.1 | exact fun h => h.1.1.1 | exact fun h => h.1.1.2); (first | omega | (constructor <;> omega)))
    | (apply Q_bin; (refine Ev.of rfl ?_; first | exact fun _ => trivial | exact id | exact And.right | exact And.left | exact fun h => h.1.2 | exact fun h => h.1.1 | exact fun h => h.1.1.1 | exact fun h => h.1.1.2); (refine Ev.of rfl ?_; first | exact fun _ => trivial | exact id | exact And.right | exact And.left | exact fun h => h.1.2 | exact fun h => h.1.1 | exact fun h => h.1.1.1 | exact fun h => h.1.1.2); exact rfl)
    | (apply Q_or; (refine Ev.of rfl ?_; first | exact fun _ => trivial | exact id | exact And.right | exact And.left | exact fun h => h.1.2 | exact fun h => h.1.1 | exact fun h => h.1.1.1 | exact fun h => h.1.1.2); (refine Ev.of rfl ?_; first | exact fun _ => trivial | exact id | exact And.right | exact And.left | exact fun h => h.1.2 | exact fun h => h.1.1 | exact fun h => h.1.1.1 | exact fun h => h.1.1.2))
    | (apply Q_and; (refine Ev.of rfl ?_; first | exact fun _ => trivial | exact id | exact And.right | exact And.left | exact fun h => h.1.2 | exact fun h => h.1.1 | exact fun h => h.1.1.1 | exact fun h => h.1.1.2); (refine Ev.of rfl ?_; first | exact fun _ => trivial | exact id | exact And.right | exact And.left | exact fun h => h.1.2 | exact fun h => h.1.1 | exact fun h => h.1.1.1 | exact fun h => h.1.1.2))
    | (apply Q_not; (refine Ev.of rfl ?_; first | exact fun _ => trivial | exact id | exact And.right | exact And.left | exact fun h => h.1.2 | exact fun h => h.1.1 | exact fun h => h.1.1.1 | exact fun h => h.1.1.2))
    | (apply Q_max; (refine Ev.of rfl ?_; first | exact fun _ => trivial | exact id | exact And.right | exact And.left | exact fun h => h.1.2 | exact fun h => h.1.1 | exact fun h => h.1.1.1 | exact fun h => h.1.1.2); (refine Ev.of rfl ?_; first | exact fun _ => trivial | exact id | exact And.right | exact And.left | exact fun h => h.1.2 | exact fun h => h.1.1 | exact fun h => h.1.1.1 | exact fun h => h.1.1.2))
    | (apply Q_min; (refine Ev.of rfl ?_; first | exact fun _ => trivial | exact id | exact And.right | exact And.left | exact fun h => h.1.2 | exact fun h => h.1.1 | exact fun h => h.1.1.1 | exact fun h => h.1.1.2); (refine Ev.of rfl ?_; first | exact fun _ => trivial | exact id | exact And.right | exact And.left | exact fun h => h.1.2 | exact fun h => h.1.1 | exact fun h => h.1.1.1 | exact fun h => h.1.1.2))
    | (apply Q_lenm TYok; (refine Ev.of rfl ?_; first | exact fun _ => trivial | exact id | exact And.right | exact And.left | exact fun h => h.1.2 | exact fun h => h.1.1 | exact fun h => h.1.1.1 | exact fun h => h.1.1.2); exact rfl; exact rfl)
    | (apply Q_lend TYok; (refine Ev.of rfl ?_; first | exact fun _ => trivial | exact id | exact And.right | exact And.left | exact fun h => h.1.2 | exact fun h => h.1.1 | exact fun h => h.1.1.1 | exact fun h => h.1.1.2); exact rfl; exact rfl)
    | (apply Q_lenom TYok; (refine Ev.of rfl ?_; first | exact fun _ => trivial | exact id | exact And.right | exact And.left | exact fun h => h.1.2 | exact fun h => h.1.1 | exact fun h => h.1.1.1 | exact fun h => h.1.1.2); exact rfl; exact rfl; exact rfl)
    | (apply Q_len TYok; (refine Ev.of rfl ?_; first | exact fun _ => trivial | exact id | exact And.right | exact And.left | exact fun h => h.1.2 | exact fun h => h.1.1 | exact fun h => h.1.1.1 | exact fun h => h.1.1.2); exact rfl; exact rfl; exact rfl)
    | (apply Q_len0 TYok; (refine Ev.of rfl ?_; first | exact fun _ => trivial | exact id | exact And.right | exact And.left | exact fun h => h.1.2 | exact fun h => h.1.1 | exact fun h => h.1.1.1 | exact fun h => h.1.1.2); exact rfl; exact rfl)
    | (apply Q_lens TYok; (refine Ev.of rfl ?_; first | exact fun _ => trivial | exact id | exact And.right | exact And.left | exact fun h => h.1.2 | exact fun h => h.1.1 | exact fun h => h.1.1.1 | exact fun h => h.1.1.2); exact rfl; exact rfl)
    | (apply Q_indexd TYok; (refine Ev.of rfl ?_; first | exact fun _ => trivial | exact id | exact And.right | exact And.left | exact fun h => h.1.2 | exact fun h => h.1.1 | exact fun h => h.1.1.1 | exact fun h => h.1.1.2); (refine Ev.of rfl ?_; first | exact fun _ => trivial | exact id | exact And.right | exact And.left | exact fun h => h.1.2 | exact fun h => h.1.1 | exact fun h => h.1.1.1 | exact fun h => h.1.1.2); exact rfl; exact rfl; exact rfl; (intro hg; first | exact getRowN (by first | omega | (simp at hg; omega)) | exact getRowI (by first | omega | (simp at hg; omega))); exact rfl)
    | (apply Q_index TYok; (refine Ev.of rfl ?_; first | exact fun _ => trivial | exact id | exact And.right | exact And.left | exact fun h => h.1.2 | exact fun h => h.1.1 | exact fun h => h.1.1.1 | exact fun h => h.1.1.2); (refine Ev.of rfl ?_; first | exact fun _ => trivial | exact id | exact And.right | exact And.left | exact fun h => h.1.2 | exact fun h => h.1.1 | exact fun h => h.1.1.1 | exact fun h => h.1.1.2); exact rfl; exact rfl; exact rfl; exact rfl; exact rfl; (intro hg; first | (simp; omega) | (simp at hg; simp; omega)))
    | (apply Q_binS; (refine Ev.of rfl ?_; first | exact fun _ => trivial | exact id | exact And.right | exact And.left | exact fun h => h.1.2 | exact fun h => h.1.1 | exact fun h => h.1.1.1 | exact fun h => h.1.1.2); (refine Ev.of rfl ?_; first | exact fun _ => trivial | exact id | exact And.right | exact And.left | exact fun h => h.1.2 | exact fun h => h.1.1 | exact fun h => h.1.1.1 | exact fun h => h.1.1.2); exact rfl)
    | (apply Q_binB TYok; (refine Ev.of rfl ?_; first | exact fun _ => trivial | exact id | exact And.right | exact And.left | exact fun h => h.1.2 | exact fun h => h.1.1 | exact fun h => h.1.1.1 | exact fun h => h.1.1.2); (refine Ev.of rfl ?_; first | exact fun _ => trivial | exact id | exact And.right | exact And.left | exact fun h => h.1.2 | exact fun h => h.1.1 | exact fun h => h.1.1.1 | exact fun h => h.1.1.2); exact rfl; exact rfl; exact rfl)
    | (apply Q_neg; (refine Ev.of rfl ?_; first | exact fun _ => trivial | exact id | exact And.right | exact And.left | exact fun h => h.1.2 | exact fun h => h.1.1 | exact fun h => h.1.1.1 | exact fun h => h.1.1.2); (first | omega | (constructor <;> omega)))
    | (apply Q_extract; (refine Ev.of rfl ?_; first | exact fun _ => trivial | exact id | exact And.right | exact And.left | exact fun h => h.1.2 | exact fun h => h.1.1 | exact fun h => h.1.1.1 | exact fun h => h.1.1.2); exact rfl)
    | (apply Q_convI TYok; exact rfl; exact rfl; exact rfl; exact rfl; (refine Ev.of rfl ?_; first | exact fun _ => trivial | exact id | exact And.right | exact And.left | exact fun h => h.1.2 | exact fun h => h.1.1 | exact fun h => h.1.1.1 | exact fun h => h.1.1.2); (first | omega | (constructor <;> omega)))
    | (apply Q_conv TYok; exact rfl; exact rfl; exact rfl; exact rfl; (refine Ev.of rfl ?_; first | exact fun _ => trivial | exact id | exact And.right | exact And.left | exact fun h => h.1.2 | exact fun h => h.1.1 | exact fun h => h.1.1.1 | exact fun h => h.1.1.2))
    | (apply Q_build TYok; (repeat (first | exact EvP.nil | apply EvP.cons (by refine Ev.of rfl ?_; first | exact fun _ => trivial | exact id | exact And.right | exact And.left | exact fun h => h.1.2 | exact fun h => h.1.1 | exact fun h => h.1.1.1 | exact fun h => h.1.1.2))); exact rfl; exact rfl; exact rfl; exact rfl)
    | (apply Q_call (small_ok); (repeat (first | exact EvL.nil | refine EvL.cons (by refine Ev.of rfl ?_; first | exact fun _ => trivial | exact id | exact And.right | exact And.left | exact fun h => h.1.2 | exact fun h => h.1.1 | exact fun h => h.1.1.1 | exact fun h => h.1.1.2) rfl (by first | exact PSub.rfl' | exact PSub.nil') ?_)); exact rfl)
    | (apply Q_call (missing_ok m y a); (repeat (first | exact EvL.nil | refine EvL.cons (by refine Ev.of rfl ?_; first | exact fun _ => trivial | exact id | exact And.right | exact And.left | exact fun h => h.1.2 | exact fun h => h.1.1 | exact fun h => h.1.1.1 | exact fun h => h.1.1.2) rfl (by first | exact PSub.rfl' | exact PSub.nil') ?_)); exact rfl)
    | (apply Q_call (reached_ok m y a); (repeat (first | exact EvL.nil | refine EvL.cons (by refine Ev.of rfl ?_; first | exact fun _ => trivial | exact id | exact And.right | exact And.left | exact fun h => h.1.2 | exact fun h => h.1.1 | exact fun h => h.1.1.1 | exact fun h => h.1.1.2) rfl (by first | exact PSub.rfl' | exact PSub.nil') ?_)); exact rfl)); exact rfl)
      | (apply S_alloc TYok; exact rfl; exact rfl; exact rfl; exact rfl)
      | (apply S_store TYok; (refine Ev.of rfl ?_; first | exact fun _ => trivial | exact id | exact And.right | exact And.left | exact fun h => h.1.2 | exact fun h => h.1.1 | exact fun h => h.1.1.1 | exact fun h => h.1.1.2); (refine Ev.of rfl ?_; first | exact fun _ => trivial | exact id | exact And.right | exact And.left | exact fun h => h.1.2 | exact fun h => h.1.1 | exact fun h => h.1.1.1 | exact fun h => h.1.1.2); exact rfl; exact rfl; exact rfl; exact rfl; exact rfl)
      | (apply S_storem TYok; (refine Ev.of rfl ?_; first | exact fun _ => trivial | exact id | exact And.right | exact And.left | exact fun h => h.1.2 | exact fun h => h.1.1 | exact fun h => h.1.1.1 | exact fun h => h.1.1.2); (refine Ev.of rfl ?_; first | exact fun _ => trivial | exact id | exact And.right | exact And.left | exact fun h => h.1.2 | exact fun h => h.1.1 | exact fun h => h.1.1.1 | exact fun h => h.1.1.2); exact rfl; exact rfl; (first | omega | (simp; omega)); exact rfl; (intro z; exact rfl))
      | (apply S_lit TYok; (repeat (first | exact EvR.nil | apply EvR.cons (by refine Ev.of rfl ?_; first | exact fun _ => trivial | exact id | exact And.right | exact And.left | exact fun h => h.1.2 | exact fun h => h.1.1 | exact fun h => h.1.1.1 | exact fun h => h.1.1.2))); exact rfl; exact rfl; exact rfl; exact rfl; exact rfl; exact rfl; exact rfl; exact rfl; exact rfl)
      | (apply S_make TYok; (refine Ev.of rfl ?_; first | exact fun _ => trivial | exact id | exact And.right | exact And.left | exact fun h => h.1.2 | exact fun h => h.1.1 | exact fun h => h.1.1.1 | exact fun h => h.1.1.2); (refine Ev.of rfl ?_; first | exact fun _ => trivial | exact id | exact And.right | exact And.left | exact fun h => h.1.2 | exact fun h => h.1.1 | exact fun h => h.1.1.1 | exact fun h => h.1.1.2); exact rfl; exact rfl; exact rfl; exact rfl; (refine ⟨by omega, by omega, by simp; omega, by omega⟩); exact rfl; exact rfl)
      | (apply S_append TYok; (refine Ev.of rfl ?_; first | exact fun _ => trivial | exact id | exact And.right | exact And.left | exact fun h => h.1.2 | exact fun h => h.1.1 | exact fun h => h.1.1.1 | exact fun h => h.1.1.2); (refine Ev.of rfl ?_; first | exact fun _ => trivial | exact id | exact And.right | exact And.left | exact fun h => h.1.2 | exact fun h => h.1.1 | exact fun h => h.1.1.1 | exact fun h => h.1.1.2); exact rfl; exact rfl; exact rfl; exact rfl; exact rfl; exact rfl; exact rfl; exact rfl; exact rfl; exact rfl; (constructor <;> simp <;> omega); exact rfl)
      | (apply S_append0 TYok; (refine Ev.of rfl ?_; first | exact fun _ => trivial | exact id | exact And.right | exact And.left | exact fun h => h.1.2 | exact fun h => h.1.1 | exact fun h => h.1.1.1 | exact fun h => h.1.1.2); (refine Ev.of rfl ?_; first | exact fun _ => trivial | exact id | exact And.right | exact And.left | exact fun h => h.1.2 | exact fun h => h.1.1 | exact fun h => h.1.1.1 | exact fun h => h.1.1.2); exact rfl; exact rfl; exact rfl; exact rfl; exact rfl; exact rfl; exact rfl; (constructor <;> simp <;> omega); exact rfl; exact rfl)
      | (apply S_box; (refine Ev.of rfl ?_; first | exact fun _ => trivial | exact id | exact And.right | exact And.left | exact fun h => h.1.2 | exact fun h => h.1.1 | exact fun h => h.1.1.1 | exact fun h => h.1.1.2); exact rfl; exact rfl)
      | (apply RG.gT; exact rfl; exact rfl; (first | assumption | decide))
      | (apply RG.gF; exact rfl; exact rfl; (first | assumption | decide); exact rfl)
      | (refine W.cond (by refine Ev.of rfl ?_; first | exact fun _ => trivial | exact id | exact And.right | exact And.left | exact fun h => h.1.2 | exact fun h => h.1.1 | exact fun h => h.1.1.1 | exact fun h => h.1.1.2) (fun hb => ?_) (fun hb => ?_) <;> (try simp at hb) <;> (try (exfalso; omega))))
    · refine Fin.retB rfl ?_
      rw [hM, hr]; rfl
end Go.Proofs.Ytanhmeedgophcaa
