/-
  Part 4 of what the proof rests on.
-/
import Derived.Test.YtppdbmobcfedcaaAS03
import Derived.Laws.IdiomStrings
import Derived.Test.YtppdbmobcfedcaaAS02
section
set_option linter.unusedVariables false
namespace Lf
open Go
section
variable {P : Program} {G : Ghost} {A : St} {T : TT}
theorem QX.Move {o : Oper} {p : Prop} {v : AV} (hT : TOK P T) (h : TOK P T → PureOp P G A o p v := by
  intro hT
  first
    | (apply Q_unpin; (refine Ev.of rfl ?_; first | exact fun _ => ⟨⟩ | exact id | exact And.right | exact And.left | exact (·.1.2) | exact (·.1.1) | exact (·.1.1.1) | exact (·.1.1.2) | exact fun _ => by assumption | exact fun _ => rfl))
    | (apply Q_move; (refine Ev.of rfl ?_; first | exact fun _ => ⟨⟩ | exact id | exact And.right | exact And.left | exact (·.1.2) | exact (·.1.1) | exact (·.1.1.1) | exact (·.1.1.2) | exact fun _ => by assumption | exact fun _ => rfl))) : PureOp P G A o p v := h hT
theorem QX.Asg {o : Oper} {p : Prop} {v : AV} (hT : TOK P T) (h : TOK P T → PureOp P G A o p v := by
  intro hT
  first
    | (apply Q_assign; (refine Ev.of rfl ?_; first | exact fun _ => ⟨⟩ | exact id | exact And.right | exact And.left | exact (·.1.2) | exact (·.1.1) | exact (·.1.1.1) | exact (·.1.1.2) | exact fun _ => by assumption | exact fun _ => rfl))) : PureOp P G A o p v := h hT
theorem QX.Fld {o : Oper} {p : Prop} {v : AV} (hT : TOK P T) (h : TOK P T → PureOp P G A o p v := by
  intro hT
  first
    | (apply Q_fieldp hT; (refine Ev.of rfl ?_; first | exact fun _ => ⟨⟩ | exact id | exact And.right | exact And.left | exact (·.1.2) | exact (·.1.1) | exact (·.1.1.1) | exact (·.1.1.2) | exact fun _ => by assumption | exact fun _ => rfl); exact rfl; exact rfl; exact rfl; exact rfl; exact rfl)
    | (apply Q_field hT; (refine Ev.of rfl ?_; first | exact fun _ => ⟨⟩ | exact id | exact And.right | exact And.left | exact (·.1.2) | exact (·.1.1) | exact (·.1.1.1) | exact (·.1.1.2) | exact fun _ => by assumption | exact fun _ => rfl); exact rfl; exact rfl; exact rfl; exact rfl; exact rfl)) : PureOp P G A o p v := h hT
theorem QX.Ld {o : Oper} {p : Prop} {v : AV} (hT : TOK P T) (h : TOK P T → PureOp P G A o p v := by
  intro hT
  first
    | (apply Q_loadp hT; exact rfl; exact rfl; (refine Ev.of rfl ?_; first | exact fun _ => ⟨⟩ | exact id | exact And.right | exact And.left | exact (·.1.2) | exact (·.1.1) | exact (·.1.1.1) | exact (·.1.1.2) | exact fun _ => by assumption | exact fun _ => rfl); exact rfl)
    | (apply Q_load hT; exact rfl; exact rfl; (refine Ev.of rfl ?_; first | exact fun _ => ⟨⟩ | exact id | exact And.right | exact And.left | exact (·.1.2) | exact (·.1.1) | exact (·.1.1.1) | exact (·.1.1.2) | exact fun _ => by assumption | exact fun _ => rfl); exact rfl; exact rfl; exact rfl)
    | (apply Q_loadm hT; exact rfl; exact rfl; (refine Ev.of rfl ?_; first | exact fun _ => ⟨⟩ | exact id | exact And.right | exact And.left | exact (·.1.2) | exact (·.1.1) | exact (·.1.1.1) | exact (·.1.1.2) | exact fun _ => by assumption | exact fun _ => rfl); exact rfl; (case I => infer_instance); (intro hg; first | omega | (simp; omega) | (simp at hg; simp; omega)); exact rfl)
    | (apply Q_loadpa hT; exact rfl; exact rfl; (refine Ev.of rfl ?_; first | exact fun _ => ⟨⟩ | exact id | exact And.right | exact And.left | exact (·.1.2) | exact (·.1.1) | exact (·.1.1.1) | exact (·.1.1.2) | exact fun _ => by assumption | exact fun _ => rfl); exact rfl)
    | (apply Q_loada hT; exact rfl; exact rfl; (refine Ev.of rfl ?_; first | exact fun _ => ⟨⟩ | exact id | exact And.right | exact And.left | exact (·.1.2) | exact (·.1.1) | exact (·.1.1.1) | exact (·.1.1.2) | exact fun _ => by assumption | exact fun _ => rfl); exact rfl; exact rfl; exact rfl)
    | (apply Q_loadmb hT; exact rfl; exact rfl; exact rfl; (refine Ev.of rfl ?_; first | exact fun _ => ⟨⟩ | exact id | exact And.right | exact And.left | exact (·.1.2) | exact (·.1.1) | exact (·.1.1.1) | exact (·.1.1.2) | exact fun _ => by assumption | exact fun _ => rfl); exact rfl; (case I => infer_instance); (intro hg; first | omega | (simp; omega) | (simp at hg; simp; omega)); exact rfl; exact rfl)) : PureOp P G A o p v := h hT
theorem QX.Bin {o : Oper} {p : Prop} {v : AV} (hT : TOK P T) (h : TOK P T → PureOp P G A o p v := by
  intro hT
  first
    | (apply Q_add; (refine Ev.of rfl ?_; first | exact fun _ => ⟨⟩ | exact id | exact And.right | exact And.left | exact (·.1.2) | exact (·.1.1) | exact (·.1.1.1) | exact (·.1.1.2) | exact fun _ => by assumption | exact fun _ => rfl); (refine Ev.of rfl ?_; first | exact fun _ => ⟨⟩ | exact id | exact And.right | exact And.left | exact (·.1.2) | exact (·.1.1) | exact (·.1.1.1) | exact (·.1.1.2) | exact fun _ => by assumption | exact fun _ => rfl); (first | omega | (constructor <;> omega)))
    | (apply Q_sub; (refine Ev.of rfl ?_; first | exact fun _ => ⟨⟩ | exact id | exact And.right | exact And.left | exact (·.1.2) | exact (·.1.1) | exact (·.1.1.1) | exact (·.1.1.2) | exact fun _ => by assumption | exact fun _ => rfl); (refine Ev.of rfl ?_; first | exact fun _ => ⟨⟩ | exact id | exact And.right | exact And.left | exact (·.1.2) | exact (·.1.1) | exact (·.1.1.1) | exact (·.1.1.2) | exact fun _ => by assumption | exact fun _ => rfl); (first | omega | (constructor <;> omega)))
    | (apply Q_mul; (refine Ev.of rfl ?_; first | exact fun _ => ⟨⟩ | exact id | exact And.right | exact And.left | exact (·.1.2) | exact (·.1.1) | exact (·.1.1.1) | exact (·.1.1.2) | exact fun _ => by assumption | exact fun _ => rfl); (refine Ev.of rfl ?_; first | exact fun _ => ⟨⟩ | exact id | exact And.right | exact And.left | exact (·.1.2) | exact (·.1.1) | exact (·.1.1.1) | exact (·.1.1.2) | exact fun _ => by assumption | exact fun _ => rfl); (first | omega | (constructor <;> omega)))
    | (apply Q_quoN; (refine Ev.of rfl ?_; first | exact fun _ => ⟨⟩ | exact id | exact And.right | exact And.left | exact (·.1.2) | exact (·.1.1) | exact (·.1.1.1) | exact (·.1.1.2) | exact fun _ => by assumption | exact fun _ => rfl); (refine Ev.of rfl ?_; first | exact fun _ => ⟨⟩ | exact id | exact And.right | exact And.left | exact (·.1.2) | exact (·.1.1) | exact (·.1.1.1) | exact (·.1.1.2) | exact fun _ => by assumption | exact fun _ => rfl); (first | omega | (constructor <;> omega)))
    | (apply Q_remN; (refine Ev.of rfl ?_; first | exact fun _ => ⟨⟩ | exact id | exact And.right | exact And.left | exact (·.1.2) | exact (·.1.1) | exact (·.1.1.1) | exact (·.1.1.2) | exact fun _ => by assumption | exact fun _ => rfl); (refine Ev.of rfl ?_; first | exact fun _ => ⟨⟩ | exact id | exact And.right | exact And.left | exact (·.1.2) | exact (·.1.1) | exact (·.1.1.1) | exact (·.1.1.2) | exact fun _ => by assumption | exact fun _ => rfl); (first | omega | (constructor <;> omega)))
    | (apply Q_add8; (refine Ev.of rfl ?_; first | exact fun _ => ⟨⟩ | exact id | exact And.right | exact And.left | exact (·.1.2) | exact (·.1.1) | exact (·.1.1.1) | exact (·.1.1.2) | exact fun _ => by assumption | exact fun _ => rfl); (refine Ev.of rfl ?_; first | exact fun _ => ⟨⟩ | exact id | exact And.right | exact And.left | exact (·.1.2) | exact (·.1.1) | exact (·.1.1.1) | exact (·.1.1.2) | exact fun _ => by assumption | exact fun _ => rfl); (first | omega | (constructor <;> omega)))
    | (apply Q_sub8; (refine Ev.of rfl ?_; first | exact fun _ => ⟨⟩ | exact id | exact And.right | exact And.left | exact (·.1.2) | exact (·.1.1) | exact (·.1.1.1) | exact (·.1.1.2) | exact fun _ => by assumption | exact fun _ => rfl); (refine Ev.of rfl ?_; first | exact fun _ => ⟨⟩ | exact id | exact And.right | exact And.left | exact (·.1.2) | exact (·.1.1) | exact (·.1.1.1) | exact (·.1.1.2) | exact fun _ => by assumption | exact fun _ => rfl); (first | omega | (constructor <;> omega)))
    | (apply Q_bin; (refine Ev.of rfl ?_; first | exact fun _ => ⟨⟩ | exact id | exact And.right | exact And.left | exact (·.1.2) | exact (·.1.1) | exact (·.1.1.1) | exact (·.1.1.2) | exact fun _ => by assumption | exact fun _ => rfl); (refine Ev.of rfl ?_; first | exact fun _ => ⟨⟩ | exact id | exact And.right | exact And.left | exact (·.1.2) | exact (·.1.1) | exact (·.1.1.1) | exact (·.1.1.2) | exact fun _ => by assumption | exact fun _ => rfl); exact rfl)
    | (apply Q_binS; (refine Ev.of rfl ?_; first | exact fun _ => ⟨⟩ | exact id | exact And.right | exact And.left | exact (·.1.2) | exact (·.1.1) | exact (·.1.1.1) | exact (·.1.1.2) | exact fun _ => by assumption | exact fun _ => rfl); (refine Ev.of rfl ?_; first | exact fun _ => ⟨⟩ | exact id | exact And.right | exact And.left | exact (·.1.2) | exact (·.1.1) | exact (·.1.1.1) | exact (·.1.1.2) | exact fun _ => by assumption | exact fun _ => rfl); exact rfl)
    | (apply Q_binB hT; (refine Ev.of rfl ?_; first | exact fun _ => ⟨⟩ | exact id | exact And.right | exact And.left | exact (·.1.2) | exact (·.1.1) | exact (·.1.1.1) | exact (·.1.1.2) | exact fun _ => by assumption | exact fun _ => rfl); (refine Ev.of rfl ?_; first | exact fun _ => ⟨⟩ | exact id | exact And.right | exact And.left | exact (·.1.2) | exact (·.1.1) | exact (·.1.1.1) | exact (·.1.1.2) | exact fun _ => by assumption | exact fun _ => rfl); exact rfl; exact rfl; exact rfl)
    | (apply Q_cat; (refine Ev.of rfl ?_; first | exact fun _ => ⟨⟩ | exact id | exact And.right | exact And.left | exact (·.1.2) | exact (·.1.1) | exact (·.1.1.1) | exact (·.1.1.2) | exact fun _ => by assumption | exact fun _ => rfl); (refine Ev.of rfl ?_; first | exact fun _ => ⟨⟩ | exact id | exact And.right | exact And.left | exact (·.1.2) | exact (·.1.1) | exact (·.1.1.1) | exact (·.1.1.2) | exact fun _ => by assumption | exact fun _ => rfl); (intro hg; first | omega | (simp; omega) | (simp at hg ⊢; omega)))) : PureOp P G A o p v := h hT
theorem QX.Pick {o : Oper} {p : Prop} {v : AV} (hT : TOK P T) (h : TOK P T → PureOp P G A o p v := by
  intro hT
  first
    | (apply Q_or; (refine Ev.of rfl ?_; first | exact fun _ => ⟨⟩ | exact id | exact And.right | exact And.left | exact (·.1.2) | exact (·.1.1) | exact (·.1.1.1) | exact (·.1.1.2) | exact fun _ => by assumption | exact fun _ => rfl); (refine Ev.of rfl ?_; first | exact fun _ => ⟨⟩ | exact id | exact And.right | exact And.left | exact (·.1.2) | exact (·.1.1) | exact (·.1.1.1) | exact (·.1.1.2) | exact fun _ => by assumption | exact fun _ => rfl))
    | (apply Q_and; (refine Ev.of rfl ?_; first | exact fun _ => ⟨⟩ | exact id | exact And.right | exact And.left | exact (·.1.2) | exact (·.1.1) | exact (·.1.1.1) | exact (·.1.1.2) | exact fun _ => by assumption | exact fun _ => rfl); (refine Ev.of rfl ?_; first | exact fun _ => ⟨⟩ | exact id | exact And.right | exact And.left | exact (·.1.2) | exact (·.1.1) | exact (·.1.1.1) | exact (·.1.1.2) | exact fun _ => by assumption | exact fun _ => rfl))
    | (apply Q_andF; (refine Ev.of rfl ?_; first | exact fun _ => ⟨⟩ | exact id | exact And.right | exact And.left | exact (·.1.2) | exact (·.1.1) | exact (·.1.1.1) | exact (·.1.1.2) | exact fun _ => by assumption | exact fun _ => rfl); (first | assumption | exact rfl))
    | (apply Q_orT; (refine Ev.of rfl ?_; first | exact fun _ => ⟨⟩ | exact id | exact And.right | exact And.left | exact (·.1.2) | exact (·.1.1) | exact (·.1.1.1) | exact (·.1.1.2) | exact fun _ => by assumption | exact fun _ => rfl); (first | assumption | exact rfl))) : PureOp P G A o p v := h hT
theorem QX.Un {o : Oper} {p : Prop} {v : AV} (hT : TOK P T) (h : TOK P T → PureOp P G A o p v := by
  intro hT
  first
    | (apply Q_not; (refine Ev.of rfl ?_; first | exact fun _ => ⟨⟩ | exact id | exact And.right | exact And.left | exact (·.1.2) | exact (·.1.1) | exact (·.1.1.1) | exact (·.1.1.2) | exact fun _ => by assumption | exact fun _ => rfl))
    | (apply Q_neg; (refine Ev.of rfl ?_; first | exact fun _ => ⟨⟩ | exact id | exact And.right | exact And.left | exact (·.1.2) | exact (·.1.1) | exact (·.1.1.1) | exact (·.1.1.2) | exact fun _ => by assumption | exact fun _ => rfl); (first | omega | (constructor <;> omega)))) : PureOp P G A o p v := h hT
theorem QX.Len {o : Oper} {p : Prop} {v : AV} (hT : TOK P T) (h : TOK P T → PureOp P G A o p v := by
  intro hT
  first
    | (apply Q_lenm hT; (refine Ev.of rfl ?_; first | exact fun _ => ⟨⟩ | exact id | exact And.right | exact And.left | exact (·.1.2) | exact (·.1.1) | exact (·.1.1.1) | exact (·.1.1.2) | exact fun _ => by assumption | exact fun _ => rfl); exact rfl; exact rfl)
    | (apply Q_lend hT; (refine Ev.of rfl ?_; first | exact fun _ => ⟨⟩ | exact id | exact And.right | exact And.left | exact (·.1.2) | exact (·.1.1) | exact (·.1.1.1) | exact (·.1.1.2) | exact fun _ => by assumption | exact fun _ => rfl); exact rfl; exact rfl)
    | (apply Q_lenom hT; (refine Ev.of rfl ?_; first | exact fun _ => ⟨⟩ | exact id | exact And.right | exact And.left | exact (·.1.2) | exact (·.1.1) | exact (·.1.1.1) | exact (·.1.1.2) | exact fun _ => by assumption | exact fun _ => rfl); exact rfl; exact rfl; exact rfl)
    | (apply Q_len hT; (refine Ev.of rfl ?_; first | exact fun _ => ⟨⟩ | exact id | exact And.right | exact And.left | exact (·.1.2) | exact (·.1.1) | exact (·.1.1.1) | exact (·.1.1.2) | exact fun _ => by assumption | exact fun _ => rfl); exact rfl; exact rfl; exact rfl)
    | (apply Q_len0 hT; (refine Ev.of rfl ?_; first | exact fun _ => ⟨⟩ | exact id | exact And.right | exact And.left | exact (·.1.2) | exact (·.1.1) | exact (·.1.1.1) | exact (·.1.1.2) | exact fun _ => by assumption | exact fun _ => rfl); exact rfl; exact rfl)
    | (apply Q_lens hT; (refine Ev.of rfl ?_; first | exact fun _ => ⟨⟩ | exact id | exact And.right | exact And.left | exact (·.1.2) | exact (·.1.1) | exact (·.1.1.1) | exact (·.1.1.2) | exact fun _ => by assumption | exact fun _ => rfl); exact rfl; exact rfl)) : PureOp P G A o p v := h hT
theorem QX.Idx {o : Oper} {p : Prop} {v : AV} (hT : TOK P T) (h : TOK P T → PureOp P G A o p v := by
  intro hT
  first
    | (apply Q_indexd hT; (refine Ev.of rfl ?_; first | exact fun _ => ⟨⟩ | exact id | exact And.right | exact And.left | exact (·.1.2) | exact (·.1.1) | exact (·.1.1.1) | exact (·.1.1.2) | exact fun _ => by assumption | exact fun _ => rfl); (refine Ev.of rfl ?_; first | exact fun _ => ⟨⟩ | exact id | exact And.right | exact And.left | exact (·.1.2) | exact (·.1.1) | exact (·.1.1.1) | exact (·.1.1.2) | exact fun _ => by assumption | exact fun _ => rfl); exact rfl; exact rfl; exact rfl; (intro hg; first | exact getRowN (by first | omega | (simp at hg; omega)) | exact getRowI (by first | omega | (simp at hg; omega))); exact rfl)
    | (apply Q_index hT; (refine Ev.of rfl ?_; first | exact fun _ => ⟨⟩ | exact id | exact And.right | exact And.left | exact (·.1.2) | exact (·.1.1) | exact (·.1.1.1) | exact (·.1.1.2) | exact fun _ => by assumption | exact fun _ => rfl); (refine Ev.of rfl ?_; first | exact fun _ => ⟨⟩ | exact id | exact And.right | exact And.left | exact (·.1.2) | exact (·.1.1) | exact (·.1.1.1) | exact (·.1.1.2) | exact fun _ => by assumption | exact fun _ => rfl); exact rfl; exact rfl; exact rfl; exact rfl; exact rfl; (intro hg; first | (simp; omega) | (simp at hg; simp; omega)))) : PureOp P G A o p v := h hT
theorem QX.Idxs {o : Oper} {p : Prop} {v : AV} (hT : TOK P T) (h : TOK P T → PureOp P G A o p v := by
  intro hT
  first
    | (apply Q_indexs hT; (refine Ev.of rfl ?_; first | exact fun _ => ⟨⟩ | exact id | exact And.right | exact And.left | exact (·.1.2) | exact (·.1.1) | exact (·.1.1.1) | exact (·.1.1.2) | exact fun _ => by assumption | exact fun _ => rfl); (refine Ev.of rfl ?_; first | exact fun _ => ⟨⟩ | exact id | exact And.right | exact And.left | exact (·.1.2) | exact (·.1.1) | exact (·.1.1.1) | exact (·.1.1.2) | exact fun _ => by assumption | exact fun _ => rfl); exact rfl; exact rfl; (intro hg; first | exact strAt (by first | omega | (simp at hg; omega) | (simp at hg; done) | fail) | (refine strAt ?_; simp at hg; first | exact Int.ofNat_lt.1 hg | exact Int.ofNat_lt.1 hg.1 | exact Int.ofNat_lt.1 hg.2)))) : PureOp P G A o p v := h hT
theorem QX.Ext {o : Oper} {p : Prop} {v : AV} (hT : TOK P T) (h : TOK P T → PureOp P G A o p v := by
  intro hT
  first
    | (apply Q_extract; (refine Ev.of rfl ?_; first | exact fun _ => ⟨⟩ | exact id | exact And.right | exact And.left | exact (·.1.2) | exact (·.1.1) | exact (·.1.1.1) | exact (·.1.1.2) | exact fun _ => by assumption | exact fun _ => rfl); exact rfl)) : PureOp P G A o p v := h hT
theorem QX.Conv {o : Oper} {p : Prop} {v : AV} (hT : TOK P T) (h : TOK P T → PureOp P G A o p v := by
  intro hT
  first
    | (apply Q_convI hT; exact rfl; exact rfl; exact rfl; exact rfl; (refine Ev.of rfl ?_; first | exact fun _ => ⟨⟩ | exact id | exact And.right | exact And.left | exact (·.1.2) | exact (·.1.1) | exact (·.1.1.1) | exact (·.1.1.2) | exact fun _ => by assumption | exact fun _ => rfl); (first | omega | (constructor <;> omega)))
    | (apply Q_conv hT; exact rfl; exact rfl; exact rfl; exact rfl; (refine Ev.of rfl ?_; first | exact fun _ => ⟨⟩ | exact id | exact And.right | exact And.left | exact (·.1.2) | exact (·.1.1) | exact (·.1.1.1) | exact (·.1.1.2) | exact fun _ => by assumption | exact fun _ => rfl))) : PureOp P G A o p v := h hT
theorem QX.Build {o : Oper} {p : Prop} {v : AV} (hT : TOK P T) (h : TOK P T → PureOp P G A o p v := by
  intro hT
  first
    | (apply Q_build hT; (repeat (first | exact EvP.nil | apply EvP.cons (by refine Ev.of rfl ?_; first | exact fun _ => ⟨⟩ | exact id | exact And.right | exact And.left | exact (·.1.2) | exact (·.1.1) | exact (·.1.1.1) | exact (·.1.1.2) | exact fun _ => by assumption | exact fun _ => rfl))); exact rfl; exact rfl; exact rfl; exact rfl)) : PureOp P G A o p v := h hT
theorem QX.Fun {o : Oper} {p : Prop} {v : AV} (hT : TOK P T) (h : TOK P T → PureOp P G A o p v := by
  intro hT
  first
    | (apply Q_makeFunc0; )
    | (apply Q_makeFunc; (repeat (first | exact EvC.nil | apply EvC.cons (by refine Ev.of rfl ?_; first | exact fun _ => ⟨⟩ | exact id | exact And.right | exact And.left | exact (·.1.2) | exact (·.1.1) | exact (·.1.1.1) | exact (·.1.1.2) | exact fun _ => by assumption | exact fun _ => rfl))))) : PureOp P G A o p v := h hT
theorem QX.Cut {o : Oper} {p : Prop} {v : AV} (hT : TOK P T) (h : TOK P T → PureOp P G A o p v := by
  intro hT
  first
    | (apply Q_sub2 hT; (refine Ev.of rfl ?_; first | exact fun _ => ⟨⟩ | exact id | exact And.right | exact And.left | exact (·.1.2) | exact (·.1.1) | exact (·.1.1.1) | exact (·.1.1.2) | exact fun _ => by assumption | exact fun _ => rfl); (refine Ev.of rfl ?_; first | exact fun _ => ⟨⟩ | exact id | exact And.right | exact And.left | exact (·.1.2) | exact (·.1.1) | exact (·.1.1.1) | exact (·.1.1.2) | exact fun _ => by assumption | exact fun _ => rfl); (refine Ev.of rfl ?_; first | exact fun _ => ⟨⟩ | exact id | exact And.right | exact And.left | exact (·.1.2) | exact (·.1.1) | exact (·.1.1.1) | exact (·.1.1.2) | exact fun _ => by assumption | exact fun _ => rfl); exact rfl; exact rfl; (intro hg; first | omega | (simp; omega) | (simp at hg ⊢; omega)))
    | (apply Q_sub1 hT; (refine Ev.of rfl ?_; first | exact fun _ => ⟨⟩ | exact id | exact And.right | exact And.left | exact (·.1.2) | exact (·.1.1) | exact (·.1.1.1) | exact (·.1.1.2) | exact fun _ => by assumption | exact fun _ => rfl); (refine Ev.of rfl ?_; first | exact fun _ => ⟨⟩ | exact id | exact And.right | exact And.left | exact (·.1.2) | exact (·.1.1) | exact (·.1.1.1) | exact (·.1.1.2) | exact fun _ => by assumption | exact fun _ => rfl); exact rfl; exact rfl; (intro hg; first | omega | (simp; omega) | (simp at hg ⊢; omega)))
    | (apply Q_sub0 hT; (refine Ev.of rfl ?_; first | exact fun _ => ⟨⟩ | exact id | exact And.right | exact And.left | exact (·.1.2) | exact (·.1.1) | exact (·.1.1.1) | exact (·.1.1.2) | exact fun _ => by assumption | exact fun _ => rfl); (refine Ev.of rfl ?_; first | exact fun _ => ⟨⟩ | exact id | exact And.right | exact And.left | exact (·.1.2) | exact (·.1.1) | exact (·.1.1.1) | exact (·.1.1.2) | exact fun _ => by assumption | exact fun _ => rfl); exact rfl; exact rfl; (intro hg; first | omega | (simp; omega) | (simp at hg ⊢; omega)))
    | (apply Q_cut2 hT; (refine Ev.of rfl ?_; first | exact fun _ => ⟨⟩ | exact id | exact And.right | exact And.left | exact (·.1.2) | exact (·.1.1) | exact (·.1.1.1) | exact (·.1.1.2) | exact fun _ => by assumption | exact fun _ => rfl); (refine Ev.of rfl ?_; first | exact fun _ => ⟨⟩ | exact id | exact And.right | exact And.left | exact (·.1.2) | exact (·.1.1) | exact (·.1.1.1) | exact (·.1.1.2) | exact fun _ => by assumption | exact fun _ => rfl); (refine Ev.of rfl ?_; first | exact fun _ => ⟨⟩ | exact id | exact And.right | exact And.left | exact (·.1.2) | exact (·.1.1) | exact (·.1.1.1) | exact (·.1.1.2) | exact fun _ => by assumption | exact fun _ => rfl); exact rfl; exact rfl; exact rfl; (intro r hr; first | (obtain ⟨_, _, rfl⟩ := List.mem_map.1 hr; rfl) | (obtain ⟨_, _, rfl⟩ := List.mem_map.1 hr; simp; done)); (intro hg; first | omega | (simp; omega) | (simp at hg ⊢; omega)))
    | (apply Q_cut1 hT; (refine Ev.of rfl ?_; first | exact fun _ => ⟨⟩ | exact id | exact And.right | exact And.left | exact (·.1.2) | exact (·.1.1) | exact (·.1.1.1) | exact (·.1.1.2) | exact fun _ => by assumption | exact fun _ => rfl); (refine Ev.of rfl ?_; first | exact fun _ => ⟨⟩ | exact id | exact And.right | exact And.left | exact (·.1.2) | exact (·.1.1) | exact (·.1.1.1) | exact (·.1.1.2) | exact fun _ => by assumption | exact fun _ => rfl); exact rfl; exact rfl; exact rfl; (intro r hr; first | (obtain ⟨_, _, rfl⟩ := List.mem_map.1 hr; rfl) | (obtain ⟨_, _, rfl⟩ := List.mem_map.1 hr; simp; done)); (intro hg; first | omega | (simp; omega) | (simp at hg ⊢; omega)))
    | (apply Q_cut0 hT; (refine Ev.of rfl ?_; first | exact fun _ => ⟨⟩ | exact id | exact And.right | exact And.left | exact (·.1.2) | exact (·.1.1) | exact (·.1.1.1) | exact (·.1.1.2) | exact fun _ => by assumption | exact fun _ => rfl); (refine Ev.of rfl ?_; first | exact fun _ => ⟨⟩ | exact id | exact And.right | exact And.left | exact (·.1.2) | exact (·.1.1) | exact (·.1.1.1) | exact (·.1.1.2) | exact fun _ => by assumption | exact fun _ => rfl); exact rfl; exact rfl; exact rfl; (intro r hr; first | (obtain ⟨_, _, rfl⟩ := List.mem_map.1 hr; rfl) | (obtain ⟨_, _, rfl⟩ := List.mem_map.1 hr; simp; done)); (intro hg; first | omega | (simp; omega) | (simp at hg ⊢; omega)))) : PureOp P G A o p v := h hT
def Stp (P : Program) (G : Ghost) (o : Oper) (A B : St) : Prop := ∀ (ops : Array Oper) (rest : List Oper) (Q : St → Prop), RG P G ops rest Q B → RG P G ops (o :: rest) Q A
theorem SX.Alloc {o : Oper} {B : St} {ops : Array Oper} {rest : List Oper} {Q : St → Prop} (hT : TOK P T) (hs : TOK P T → Stp P G o A B := by
  intro hT ops rest Q h
  first
    | (apply S_alloc hT; exact rfl; exact rfl; exact rfl; exact rfl; exact h)) (h : RG P G ops rest Q B) : RG P G ops (o :: rest) Q A := hs hT ops rest Q h
theorem SX.Store {o : Oper} {B : St} {ops : Array Oper} {rest : List Oper} {Q : St → Prop} (hT : TOK P T) (hs : TOK P T → Stp P G o A B := by
  intro hT ops rest Q h
  first
    | (apply S_store hT; (refine Ev.of rfl ?_; first | exact fun _ => ⟨⟩ | exact id | exact And.right | exact And.left | exact (·.1.2) | exact (·.1.1) | exact (·.1.1.1) | exact (·.1.1.2) | exact fun _ => by assumption | exact fun _ => rfl); (refine Ev.of rfl ?_; first | exact fun _ => ⟨⟩ | exact id | exact And.right | exact And.left | exact (·.1.2) | exact (·.1.1) | exact (·.1.1.1) | exact (·.1.1.2) | exact fun _ => by assumption | exact fun _ => rfl); exact rfl; exact rfl; exact rfl; exact rfl; exact rfl; exact h)
    | (apply S_storem hT; (refine Ev.of rfl ?_; first | exact fun _ => ⟨⟩ | exact id | exact And.right | exact And.left | exact (·.1.2) | exact (·.1.1) | exact (·.1.1.1) | exact (·.1.1.2) | exact fun _ => by assumption | exact fun _ => rfl); (refine Ev.of rfl ?_; first | exact fun _ => ⟨⟩ | exact id | exact And.right | exact And.left | exact (·.1.2) | exact (·.1.1) | exact (·.1.1.1) | exact (·.1.1.2) | exact fun _ => by assumption | exact fun _ => rfl); exact rfl; exact rfl; (first | omega | (simp; omega)); exact rfl; (intro z; exact rfl); exact h)) (h : RG P G ops rest Q B) : RG P G ops (o :: rest) Q A := hs hT ops rest Q h
theorem SX.Lit {o : Oper} {B : St} {ops : Array Oper} {rest : List Oper} {Q : St → Prop} (hT : TOK P T) (hs : TOK P T → Stp P G o A B := by
  intro hT ops rest Q h
  first
    | (apply S_lit hT; (repeat (first | exact EvR.nil | apply EvR.cons (by refine Ev.of rfl ?_; first | exact fun _ => ⟨⟩ | exact id | exact And.right | exact And.left | exact (·.1.2) | exact (·.1.1) | exact (·.1.1.1) | exact (·.1.1.2) | exact fun _ => by assumption | exact fun _ => rfl))); exact rfl; exact rfl; exact rfl; exact rfl; exact rfl; exact rfl; exact rfl; exact rfl; exact rfl; exact h)) (h : RG P G ops rest Q B) : RG P G ops (o :: rest) Q A := hs hT ops rest Q h
theorem SX.App {o : Oper} {B : St} {ops : Array Oper} {rest : List Oper} {Q : St → Prop} (hT : TOK P T) (hs : TOK P T → Stp P G o A B := by
  intro hT ops rest Q h
  first
    | (apply S_append hT; (refine Ev.of rfl ?_; first | exact fun _ => ⟨⟩ | exact id | exact And.right | exact And.left | exact (·.1.2) | exact (·.1.1) | exact (·.1.1.1) | exact (·.1.1.2) | exact fun _ => by assumption | exact fun _ => rfl); (refine Ev.of rfl ?_; first | exact fun _ => ⟨⟩ | exact id | exact And.right | exact And.left | exact (·.1.2) | exact (·.1.1) | exact (·.1.1.1) | exact (·.1.1.2) | exact fun _ => by assumption | exact fun _ => rfl); exact rfl; exact rfl; exact rfl; exact rfl; exact rfl; exact rfl; exact rfl; exact rfl; exact rfl; exact rfl; (constructor <;> simp <;> omega); exact rfl; exact h)
    | (apply S_append0 hT; (refine Ev.of rfl ?_; first | exact fun _ => ⟨⟩ | exact id | exact And.right | exact And.left | exact (·.1.2) | exact (·.1.1) | exact (·.1.1.1) | exact (·.1.1.2) | exact fun _ => by assumption | exact fun _ => rfl); (refine Ev.of rfl ?_; first | exact fun _ => ⟨⟩ | exact id | exact And.right | exact And.left | exact (·.1.2) | exact (·.1.1) | exact (·.1.1.1) | exact (·.1.1.2) | exact fun _ => by assumption | exact fun _ => rfl); exact rfl; exact rfl; exact rfl; exact rfl; exact rfl; exact rfl; exact rfl; (constructor <;> simp <;> omega); exact rfl; exact rfl; exact h)
    | (apply S_appendd hT; (refine Ev.of rfl ?_; first | exact fun _ => ⟨⟩ | exact id | exact And.right | exact And.left | exact (·.1.2) | exact (·.1.1) | exact (·.1.1.1) | exact (·.1.1.2) | exact fun _ => by assumption | exact fun _ => rfl); (refine Ev.of rfl ?_; first | exact fun _ => ⟨⟩ | exact id | exact And.right | exact And.left | exact (·.1.2) | exact (·.1.1) | exact (·.1.1.1) | exact (·.1.1.2) | exact fun _ => by assumption | exact fun _ => rfl); exact rfl; exact rfl; exact rfl; exact rfl; exact rfl; exact rfl; exact rfl; exact rfl; (intro r hr; obtain ⟨_, _, rfl⟩ := List.mem_map.1 hr; rfl); (constructor <;> simp <;> omega); exact rfl; exact h)) (h : RG P G ops rest Q B) : RG P G ops (o :: rest) Q A := hs hT ops rest Q h
theorem SX.Box {o : Oper} {B : St} {ops : Array Oper} {rest : List Oper} {Q : St → Prop} (hT : TOK P T) (hs : TOK P T → Stp P G o A B := by
  intro hT ops rest Q h
  first
    | (apply S_box; (refine Ev.of rfl ?_; first | exact fun _ => ⟨⟩ | exact id | exact And.right | exact And.left | exact (·.1.2) | exact (·.1.1) | exact (·.1.1.1) | exact (·.1.1.2) | exact fun _ => by assumption | exact fun _ => rfl); exact rfl; exact rfl; exact rfl; exact h)) (h : RG P G ops rest Q B) : RG P G ops (o :: rest) Q A := hs hT ops rest Q h
theorem Ev.auto {p : Prop} {x : Operand} {v : AV} (h : Ev A p x v := by refine Ev.of rfl ?_; first | exact fun _ => ⟨⟩ | exact id | exact And.right | exact And.left | exact (·.1.2) | exact (·.1.1) | exact (·.1.1.1) | exact (·.1.1.2) | exact fun _ => by assumption | exact fun _ => rfl) : Ev A p x v := h
theorem EvL.auto {p : Prop} {xs : List Operand} {qs : List PV} (h : EvL A p xs qs := by first | ((repeat (first | exact EvL.nil | refine EvL.cons (by refine Ev.of rfl ?_; first | exact fun _ => ⟨⟩ | exact id | exact And.right | exact And.left | exact (·.1.2) | exact (·.1.1) | exact (·.1.1.1) | exact (·.1.1.2) | exact fun _ => by assumption | exact fun _ => rfl) rfl (by first | exact PSub.rfl' | exact PSub.nil' | (refine PSub.of_eq ?_; simp only [List.map_append, List.map_cons, List.map_nil, List.nil_append] <;> rfl) | (refine PSub.of_eq ?_; show PV.one (Cell.sl _) = PV.one (Cell.sl _); simp only [List.map_take, List.map_drop]; done) | fail) ?_)); done) | fail) : EvL A p xs qs := h
theorem EvD.auto {p : Prop} {xs : List Operand} {qs : List PV} (h : EvD A p xs qs := by first | ((repeat (first | exact EvD.nil | refine EvD.cons (by refine Ev.of rfl ?_; first | exact fun _ => ⟨⟩ | exact id | exact And.right | exact And.left | exact (·.1.2) | exact (·.1.1) | exact (·.1.1.1) | exact (·.1.1.2) | exact fun _ => by assumption | exact fun _ => rfl) (by first | exact PSub.rfl' | exact PSub.nil' | (refine PSub.of_eq ?_; simp only [List.map_append, List.map_cons, List.map_nil, List.nil_append] <;> rfl) | (refine PSub.of_eq ?_; show PV.one (Cell.sl _) = PV.one (Cell.sl _); simp only [List.map_take, List.map_drop]; done) | fail) ?_)); done) | fail) : EvD A p xs qs := h
theorem EvA.auto {p : Prop} {caps : List Cell} {xs : List Operand} {as1 : List PV} (h : EvA A p caps xs as1 := by first | ((repeat (first | exact EvA.nil rfl | refine EvA.cons (by refine Ev.of rfl ?_; first | exact fun _ => ⟨⟩ | exact id | exact And.right | exact And.left | exact (·.1.2) | exact (·.1.1) | exact (·.1.1.1) | exact (·.1.1.2) | exact fun _ => by assumption | exact fun _ => rfl) (by first | exact PSub.rfl' | exact PSub.nil' | (refine PSub.of_eq ?_; simp only [List.map_append, List.map_cons, List.map_nil, List.nil_append] <;> rfl) | (refine PSub.of_eq ?_; show PV.one (Cell.sl _) = PV.one (Cell.sl _); simp only [List.map_take, List.map_drop]; done) | fail) ?_)); done) | fail) : EvA A p caps xs as1 := h
theorem ResL.auto {ts : List Nat} {qs : List PV} (h : ResL A ts qs := by first | ((repeat (first | exact ResL.nil | refine ResL.cons rfl rfl (by first | exact PSub.rfl' | exact PSub.nil' | (refine PSub.of_eq ?_; simp; done) | (refine PSub.of_eq ?_; simp only [List.map_append, List.map_cons, List.map_nil]; rfl) | (refine PSub.of_eq ?_; simp; rfl)) ?_)); done) | fail) : ResL A ts qs := h
theorem ResM.auto {rs : List RV} {qs : List PV} (h : ResM T A rs qs := by first | ((repeat (first | exact ResM.nil | refine ResM.cell rfl rfl rfl rfl (by first | exact PSub.rfl' | (refine PSub.of_eq ?_; simp; done) | (refine PSub.of_eq ?_; rfl)) ?_ | refine ResM.tmp rfl rfl (by first | exact PSub.rfl' | exact PSub.nil' | (refine PSub.of_eq ?_; simp; done) | (refine PSub.of_eq ?_; simp only [List.map_append, List.map_cons, List.map_nil]; rfl) | (refine PSub.of_eq ?_; simp; rfl)) ?_)); done) | fail) : ResM T A rs qs := h
theorem Le.auto {B : St} (h : Le A B := by
  refine Le.mkR rfl rfl ?_ ?_ ?_ rfl
  · repeat (first | exact SubR.nil | apply SubR.p rfl (by first | rfl | (simp; done) | (congr 3; omega) | (congr 3; simp; omega)) | apply SubR.s rfl rfl rfl | apply SubR.a rfl rfl rfl | apply SubR.t rfl rfl | apply SubR.k rfl rfl rfl | apply SubR.m rfl rfl rfl | apply SubR.i rfl rfl rfl rfl rfl)
  · repeat (first | exact SubR.nil | apply SubR.p rfl (by first | rfl | (simp; done) | (congr 3; omega) | (congr 3; simp; omega)) | apply SubR.s rfl rfl rfl | apply SubR.a rfl rfl rfl | apply SubR.t rfl rfl | apply SubR.k rfl rfl rfl | apply SubR.m rfl rfl rfl | apply SubR.i rfl rfl rfl rfl rfl)
  · repeat (first | exact SubBR.nil | apply SubBR.cons rfl (by first | rfl | (simp only [List.map_append, List.map_replicate, List.map_cons, List.map_nil]; rfl) | (simp only [List.map_append, List.map_cons, List.map_nil, List.append_assoc, List.cons_append, List.nil_append]; rfl) | (simp; done) | (simp; assumption)))) : Le A B := h
theorem W.condA {c : Operand} {x y : Code} {b : Bool} {Q : Exit → St → Prop} (hc : Ev A True c (.pv (.one (.bool b))) := by refine Ev.of rfl ?_; first | exact fun _ => ⟨⟩ | exact id | exact And.right | exact And.left | exact (·.1.2) | exact (·.1.1) | exact (·.1.1.1) | exact (·.1.1.2) | exact fun _ => by assumption | exact fun _ => rfl) (ht : b = true → W P G x Q A) (hf : b = false → W P G y Q A) : W P G (.cond c x y) Q A := W.cond hc ht hf
theorem W.initA {Q : Exit → St → Prop} {c : Code} {n : Nat} {args : List PV} {env : List (Nat × (Prop × AV))} (h : InitE args 0 env := by first | ((repeat (first | exact InitE.nil | apply InitE.c0 | apply InitE.c1 | apply InitE.c2 | apply InitE.c3 | apply InitE.c4 | apply InitE.c5 | apply InitE.c6 | apply InitE.c7 | apply InitE.c8 | apply InitE.c9 | apply InitE.c10 | apply InitE.c11)); done) | fail) (hw : W P G c Q (St.mk n env [])) : W P G c Q (St.init n args) := W.init h hw
end
end Lf
end
section
set_option linter.unusedVariables false
namespace Lf
open Go
section
variable {P : Program} {G : Ghost} {A : St} {T : TT}
theorem QX.B {o : Oper} {p : Prop} {v : AV} (hT : TOK P T) (h : TOK P T → PureOp P G A o p v := by
  intro hT
  first | exact QX.Move hT | exact QX.Asg hT | exact QX.Ld hT | exact QX.Fld hT | exact QX.Bin hT | exact QX.Pick hT | exact QX.Un hT) : PureOp P G A o p v := h hT
theorem SC {X Y : Prop} (hx : X) (h : X → Y := by first | exact RG.nil | exact Lex.nil | exact Then.n | exact Then.r | exact Then.x | exact InBlock.n | exact InBlock.r | exact InBlock.hit | exact InBlock.miss rfl | exact W.seq | exact W.region | exact W.block | exact W.skip | exact W.ret | exact W.exit) : Y := h hx
section
variable {n0 : Nat} {env : List (Nat × (Prop × AV))} {bl : List (Nat × Blk)} {p : Prop} {dst : Option Nat} {ty : TypeId} {pos : String} {after : Array Edge} {gd : Option (Nat × Bool)} {f : FuncId} {xs : List Operand} {ats : Array TypeId} {ps : List PV} {r : AV}
theorem QCd (hc : ACalls P f ps r) (hx : EvD (St.mk n0 env bl) p xs ps := by exact EvD.auto) : PureOp P G (St.mk n0 env bl) ⟨dst, .call ⟨.value (.func f), xs.toArray, ats⟩, ty, pos, after, gd⟩ p r := Q_calld hc hx
theorem QCl (hc : ACalls P f ps r) (hx : EvL (St.mk n0 env bl) p xs ps := by exact EvL.auto) (hr : r.flat = true := by exact rfl) : PureOp P G (St.mk n0 env bl) ⟨dst, .call ⟨.value (.func f), xs.toArray, ats⟩, ty, pos, after, gd⟩ p r := Q_call hc hx hr
end
end
end Lf
end
section
set_option linter.unusedVariables false
set_option linter.unusedSimpArgs false
set_option maxHeartbeats 8000000
set_option linter.unusedSectionVars false
namespace Go.Proofs.Ytppdbmobcfedcaa
open Lf Go
attribute [local irreducible] PureOp EffOp Ev RG W Then InBlock Lf.Fin nth App InitE Pick SubE EvL EvD EvP EvR ResL Lf.Lex SubR SubBR RA RAll EvC FinO FinM ResM
abbrev Str := List UInt8
def encS (s : Str) : List Cell := [.str s]
abbrev slS (l : List Str) : PV := .one (.sl (l.map encS))
abbrev cS (s : Str) : PV := .one (.str s)
abbrev cU8 (c : UInt8) : PV := .one (.int .u8 c.toNat)
def letterF (c : UInt8) : Bool := decide ((c.toNat : Int) ≥ 97) && decide ((c.toNat : Int) ≤ 122)
def digitF (c : UInt8) : Bool := decide ((c.toNat : Int) ≥ 48) && decide ((c.toNat : Int) ≤ 57)
theorem letter_ok (c : UInt8) : ACalls Try.prog 69 [cU8 c] (.pv (cB (letterF c))) := by
  refine ACalls.of_W (qs := [_]) [2] 9 Try.func69 (by kernel_rfl) rfl rfl rfl fun G => ?_
  refine W.initA (hw := ?_)
  repeat' (first | ((first | apply U_ | (apply Ug_; exact rfl; exact rfl) | (apply Ugq_; exact rfl; exact rfl)); (first | exact QX.B TYok); exact rfl) | refine SC ?_ | refine SG ?_ | (refine W.condA (ht := fun hb => ?_) (hf := fun hb => ?_) <;> (try simp at hb) <;> (try (exfalso; omega))))
  exact Fin.ret ResL.auto
theorem digit_ok (c : UInt8) : ACalls Try.prog 72 [cU8 c] (.pv (cB (digitF c))) := by
  refine ACalls.of_W (qs := [_]) [2] 9 Try.func72 (by kernel_rfl) rfl rfl rfl fun G => ?_
  refine W.initA (hw := ?_)
  repeat' (first | ((first | apply U_ | (apply Ug_; exact rfl; exact rfl) | (apply Ugq_; exact rfl; exact rfl)); (first | exact QX.B TYok); exact rfl) | refine SC ?_ | refine SG ?_ | (refine W.condA (ht := fun hb => ?_) (hf := fun hb => ?_) <;> (try simp at hb) <;> (try (exfalso; omega))))
  exact Fin.ret ResL.auto
def alnum (c : UInt8) : Bool := letterF c || digitF c
theorem alnum_ok (c : UInt8) : ACalls Try.prog 71 [cU8 c] (.pv (cB (alnum c))) := by
  refine ACalls.of_W (qs := [_]) [2] 9 Try.func71 (by kernel_rfl) rfl rfl rfl fun G => ?_
  refine W.initA (hw := ?_)
  repeat' (first | ((first | apply U_ | (apply Ug_; exact rfl; exact rfl) | (apply Ugq_; exact rfl; exact rfl)); (first | exact QX.B TYok | exact QCl (letter_ok c) | exact QCl (digit_ok c)); exact rfl) | refine SC ?_ | refine SG ?_ | (refine W.condA (ht := fun hb => ?_) (hf := fun hb => ?_) <;> (try simp at hb) <;> (try (exfalso; omega))))
  exact Fin.ret ResL.auto
def RES : List Str := [
  [97, 99, 116, 117, 97, 108],
  [97, 100, 106, 117, 115, 116],
  [97, 110, 100],
  [97, 116],
  [98, 101, 102, 111, 114, 101],
  [99, 97, 108, 108],
  [99, 97, 112],
  [99, 111, 105, 110, 115],
  [99, 111, 117, 110, 116],
  [99, 111, 117, 112, 111, 110],
  [99, 111, 118, 101, 110, 97, 110, 116],
  [99, 114, 111, 115, 115],
  [100, 97, 121, 115],
  [101, 108, 115, 101],
  [101, 118, 101, 114],
  [101, 118, 101, 114, 121],
  [102, 97, 99, 101],
  [102, 97, 99, 116],
  [102, 97, 108, 115, 101],
  [102, 97, 115, 116],
  [102, 97, 118, 111, 117, 114],
  [102, 105, 120, 101, 100],
  [102, 114, 111, 109],
  [103, 114, 97, 99, 101],
  [105, 102],
  [105, 115, 115, 117, 101],
  [108, 101, 116],
  [108, 111, 110, 103],
  [109, 97, 106, 111, 114, 105, 116, 121],
  [109, 97, 120],
  [109, 105, 108, 108, 101],
  [109, 105, 110],
  [109, 111, 100, 105, 102, 105, 101, 100],
  [109, 111, 110, 116, 104, 115],
  [109, 117, 115, 116],
  [110, 101, 120, 116],
  [110, 111, 110, 101],
  [110, 111, 116],
  [110, 111, 116, 105, 99, 101],
  [111, 102],
  [111, 114],
  [114, 97, 110, 107],
  [114, 97, 116, 101],
  [114, 101, 99, 111, 114, 100],
  [115, 105, 110, 107],
  [115, 111, 111, 110],
  [116, 104, 101, 110],
  [116, 104, 105, 114, 116, 121],
  [116, 111],
  [116, 114, 117, 101]]
theorem reserved_ok : ACalls Try.prog 57 [] (.pv (slS RES)) := by
  refine ACalls.of_W (qs := [slS RES]) [0] 2 Try.func57 (by kernel_rfl) rfl rfl rfl fun G => ?_
  refine W.initA (hw := ?_)
  repeat' (first | ((first | apply U_); (first | exact QX.B TYok); exact rfl) | refine SX.Lit TYok (h := ?_) | refine SC ?_ | (refine W.condA (ht := fun hb => ?_) (hf := fun hb => ?_) <;> (try simp at hb) <;> (try (exfalso; omega))))
  exact Fin.ret (ResL.cons rfl rfl (PSub.of_eq rfl) ResL.nil)
theorem tw_at {s : Str} {p : UInt8 → Bool} : ∀ {k : Nat}, (∀ j, j < k → p (nth s j) = true) → k ≤ s.length → (k = s.length ∨ p (nth s k) = false) → (s.takeWhile p).length = k := by
  induction s with
  | nil => intro k _ h _; simp at h; simp [h]
  | cons c s ih =>
    intro k h1 h2 h3
    cases k with
    | zero =>
      rcases h3 with h3 | h3
      · simp at h3
      · have : p c = false := by simpa [nth, List.getD] using h3
        simp [List.takeWhile_cons, this]
    | succ k =>
      have hc : p c = true := by simpa [nth, List.getD] using h1 0 (by omega)
      have := ih (k := k) (fun j hj => by have := h1 (j + 1) (by omega); simpa [nth, List.getD] using this) (by simpa using h2) (by
        rcases h3 with h3 | h3
        · left; simpa using h3
        · right; simpa [nth, List.getD] using h3)
      simp [List.takeWhile_cons, hc, this]
theorem List.mem_takeWhile_imp' {p : UInt8 → Bool} : ∀ {s : Str} {x : UInt8}, x ∈ s.takeWhile p → p x = true
  | c :: s, x, h => by
    rw [List.takeWhile_cons] at h
    split at h
    · rcases List.mem_cons.1 h with rfl | h
      · assumption
      · exact List.mem_takeWhile_imp' h
    · cases h
theorem tw_self {p : UInt8 → Bool} : ∀ {s : Str}, (∀ x ∈ s, p x = true) → s.takeWhile p = s
  | [], _ => rfl
  | c :: s, h => by rw [List.takeWhile_cons, if_pos (h c (by simp)), tw_self fun x hx => h x (List.mem_cons_of_mem _ hx)]
theorem tw_all {s : Str} {p : UInt8 → Bool} : decide (((s.takeWhile p).length : Int) = s.length) = s.all p := by
  rw [Bool.eq_iff_iff, decide_eq_true_iff, List.all_eq_true]
  constructor
  · intro h
    have h' : (s.takeWhile p).length = s.length := by omega
    have e : s.takeWhile p = s := by
      have := List.takeWhile_prefix (p := p) (l := s)
      exact this.eq_of_length h'
    intro x hx
    rw [← e] at hx
    exact List.mem_takeWhile_imp' hx
  · intro h
    rw [tw_self h]
theorem span_ok (s : Str) (f : Nat) (p : UInt8 → Bool) (hl : s.length ≤ 9223372036854775807) (hf : FnOK Try.prog f) (hp : ∀ c : UInt8, ACalls Try.prog f [cU8 c] (.pv (cB (p c)))) : ACalls Try.prog 70 [cS s, .one (.fn f [])] (.pv (cI (s.takeWhile p).length)) := by
  refine ACalls.of_W (qs := [cI (s.takeWhile p).length]) [4] 20 Try.func70 (by kernel_rfl) rfl rfl rfl fun G => ?_
  refine W.initA (hw := ?_)
  repeat' (first | ((first | apply U_ | (apply Ug_; exact rfl; exact rfl) | (apply Ugq_; exact rfl; exact rfl)); (first | exact QX.B TYok | exact QX.Len TYok | exact QX.Idxs TYok); exact rfl) | refine SC ?_ | refine SG ?_ | (refine W.condA (ht := fun hb => ?_) (hf := fun hb => ?_) <;> (try simp at hb) <;> (try (exfalso; omega))))
  apply W.loopP (σ := Nat) 20 [0, 1] (fun k => k ≤ s.length ∧ ∀ j, j < k → p (nth s j) = true) (fun k => [(5, vI k)]) (fun _ => []) (fun k => s.length - k) (0)
  case hp => repeat (first | exact Pick.nil | apply Pick.cons rfl)
  case h0 =>
    refine ⟨by simp, ?_⟩
    exact Le.auto
  case round =>
    rintro k ⟨h1, h2⟩
    apply W.norm (by repeat (first | exact App.nil | apply App.cons))
    repeat' (first | ((first | apply U_ | (apply Ug_; exact rfl; exact rfl) | (apply Ugq_; exact rfl; exact rfl)); (first | exact QX.B TYok | exact QX.Len TYok | exact QX.Idxs TYok | (apply Q_callvA (hp (nth s k)); exact Ev.auto; exact EvA.auto)); exact rfl) | refine SC ?_ | refine SG ?_ | (refine W.condA (ht := fun hb => ?_) (hf := fun hb => ?_) <;> (try simp at hb) <;> (try (exfalso; omega))))
    · refine ⟨k + 1, ⟨by omega, fun j hj => ?_⟩, ?_, ?_⟩
      · by_cases e : j = k
        · subst e; exact hb.2
        · exact h2 j (by omega)
      · exact Le.auto
      · (try simp only); omega
    · have e : (s.takeWhile p).length = k := tw_at h2 h1 (by
        by_cases hk : k = s.length
        · exact .inl hk
        · exact .inr (hb (by omega)))
      rw [e]
      exact Fin.ret ResL.auto
theorem index_ok (l : List Str) (s : Str) (hl : l.length ≤ 9223372036854775807) : ACalls Try.prog 73 [slS l, cS s] (.pv (cI (if s ∈ l then (l.idxOf s : Int) else -1))) := by
  refine ACalls.of_W (qs := [cI (if s ∈ l then (l.idxOf s : Int) else -1)]) [4] 19 Try.func73 (by kernel_rfl) rfl rfl rfl fun G => ?_
  refine W.initA (hw := ?_)
  repeat' (first | ((first | apply U_); (first | exact QX.B TYok | exact QX.Len TYok | exact QX.Idx TYok); exact rfl) | refine SC ?_ | (apply S_isnil TYok; exact rfl; exact rfl; exact rfl; exact Ev.auto; intro bn hnil) | (refine W.condA (ht := fun hb => ?_) (hf := fun hb => ?_) <;> (try simp at hb) <;> (try (exfalso; omega))))
  apply W.loopP (σ := Nat) 19 [0, 1, 7] (fun k => k ≤ l.length ∧ s ∉ l.take k) (fun k => [(8, vI k)]) (fun _ => []) (fun k => l.length - k) (0)
  case hp => repeat (first | exact Pick.nil | apply Pick.cons rfl)
  case h0 =>
    refine ⟨by simp, ?_⟩
    exact Le.auto
  case round =>
    rintro k ⟨h1, h2⟩
    apply W.norm (by repeat (first | exact App.nil | apply App.cons))
    repeat' (first | ((first | apply U_); (first | exact QX.B TYok | exact QX.Len TYok | exact QX.Idx TYok); exact rfl) | refine SC ?_ | (apply S_isnil TYok; exact rfl; exact rfl; exact rfl; exact Ev.auto; intro bn hnil) | (refine W.condA (ht := fun hb => ?_) (hf := fun hb => ?_) <;> (try simp at hb) <;> (try (exfalso; omega))))
    · have hk : k < l.length := by omega
      have hm : s ∈ l := by rw [hb]; rw [nth, List.getD, List.getElem?_eq_getElem hk]; exact List.getElem_mem hk
      have e : l.idxOf s = k := by
        have e1 : l = l.take k ++ l.drop k := (List.take_append_drop k l).symm
        rw [e1, List.idxOf_append, if_neg h2, drop_nth hk, ← hb]
        simp; omega
      rw [if_pos hm, e]
      exact Fin.ret ResL.auto
    · refine ⟨k + 1, ⟨by omega, ?_⟩, ?_, ?_⟩
      · intro hm
        rw [take_nth (by omega)] at hm
        rcases List.mem_append.1 hm with hm | hm
        · exact h2 hm
        · exact hb (List.mem_singleton.1 hm)
      · exact Le.auto
      · (try simp only); omega
    · obtain rfl : k = l.length := by omega
      rw [List.take_length] at h2
      rw [if_neg h2]
      exact Fin.ret ResL.auto
theorem contains_ok (l : List Str) (s : Str) (hl : l.length ≤ 9223372036854775807) : ACalls Try.prog 56 [slS l, cS s] (.pv (cB (decide (s ∈ l)))) := by
  refine ACalls.of_W (qs := [cB (decide (s ∈ l))]) [4] 9 Try.func56 (by kernel_rfl) rfl rfl rfl fun G => ?_
  refine W.initA (hw := ?_)
  repeat' (first | ((first | apply U_); (first | exact QX.B TYok | exact QCl (index_ok l s hl)); exact rfl) | refine SC ?_ | (refine W.condA (ht := fun hb => ?_) (hf := fun hb => ?_) <;> (try simp at hb) <;> (try (exfalso; omega))))
  have e : decide (s ∈ l) = decide ((if s ∈ l then (l.idxOf s : Int) else -1) ≥ 0) := by
    by_cases h : s ∈ l <;> simp [h]
  rw [e]
  exact Fin.ret ResL.auto
def wordF (s : Str) : Bool := decide (s ≠ []) && letterF (nth s 0) && decide (s.length ≤ 20) && s.all alnum
theorem word_ok (s : Str) (hl : s.length ≤ 9223372036854775807) : ACalls Try.prog 55 [cS s] (.pv (cB (wordF s))) := by
  refine ACalls.of_W (qs := [cB (wordF s)]) [2] 21 Try.func55 (by kernel_rfl) rfl rfl rfl fun G => ?_
  refine W.initA (hw := ?_)
  by_cases h0 : s = []
  · subst h0
    repeat' (first | ((first | apply U_ | (apply Ug_; exact rfl; exact rfl) | (apply Ugq_; exact rfl; exact rfl)); (first | exact QX.B TYok | exact QX.Len TYok | exact QX.Idxs TYok | exact QCl (letter_ok 0) | exact QCl (letter_ok (nth [] 0)) | exact QCl (span_ok [] 71 alnum hl (alnum_ok 0).fn alnum_ok)); exact rfl) | refine SC ?_ | (apply S_isnil TYok; exact rfl; exact rfl; exact rfl; exact Ev.auto; intro bn hnil) | refine SG ?_ | (refine W.condA (ht := fun hb => ?_) (hf := fun hb => ?_) <;> (try simp at hb) <;> (try (exfalso; omega))))
    have e : wordF [] = false := by simp [wordF]
    rw [e]
    exact Fin.ret ResL.auto
  have hpos : 0 < s.length := List.length_pos_iff.2 h0
  repeat' (first | ((first | apply U_ | (apply Ug_; exact rfl; exact rfl) | (apply Ugq_; exact rfl; exact rfl)); (first | exact QX.B TYok | exact QX.Len TYok | exact QX.Idxs TYok | exact QCl (letter_ok (nth s 0)) | exact QCl (span_ok s 71 alnum hl (alnum_ok 0).fn alnum_ok)); exact rfl) | refine SC ?_ | (apply S_isnil TYok; exact rfl; exact rfl; exact rfl; exact Ev.auto; intro bn hnil) | refine SG ?_ | (refine W.condA (ht := fun hb => ?_) (hf := fun hb => ?_) <;> (try simp at hb) <;> (try (exfalso; omega))))
  · have e : wordF s = false := by
      rcases hb with (h | h) | h
      · exact absurd h h0
      · simp [wordF, h]
      · simp [wordF, show ¬ (s.length ≤ 20) by omega]
    rw [e]
    exact Fin.ret ResL.auto
  · have e : wordF s = decide (((s.takeWhile alnum).length : Int) = s.length) := by
      rw [tw_all]
      simp [wordF, hb.1.1, hb.1.2, show s.length ≤ 20 by omega]
    rw [e]
    exact Fin.ret ResL.auto
def nameF (s : Str) : Bool := wordF s && !decide (s ∈ RES)
theorem res_len : RES.length ≤ 9223372036854775807 := by decide
theorem name_ok (s : Str) (hl : s.length ≤ 9223372036854775807) : ACalls Try.prog 35 [cS s] (.pv (cB (nameF s))) := by
  refine ACalls.of_W (qs := [_]) [2] 11 Try.func35 (by kernel_rfl) rfl rfl rfl fun G => ?_
  refine W.initA (hw := ?_)
  repeat' (first | ((first | apply U_ | (apply Ug_; exact rfl; exact rfl) | (apply Ugq_; exact rfl; exact rfl)); (first | exact QX.B TYok | exact QCl (word_ok s hl) | exact QCl (contains_ok RES s res_len) | exact QCd (reserved_ok)); exact rfl) | refine SC ?_ | refine SG ?_ | (refine W.condA (ht := fun hb => ?_) (hf := fun hb => ?_) <;> (try simp at hb) <;> (try (exfalso; omega))))
  exact Fin.ret ResL.auto
end Go.Proofs.Ytppdbmobcfedcaa
end
section
set_option linter.unusedVariables false
set_option linter.unusedSimpArgs false
set_option maxHeartbeats 8000000
set_option linter.unusedSectionVars false
namespace Go.Proofs.Ytppdbmobcfedcaa
open Lf Go
attribute [local irreducible] PureOp EffOp Ev RG W Then InBlock Lf.Fin nth App InitE Pick SubE EvL EvD EvP EvR ResL Lf.Lex SubR SubBR RA RAll EvC FinO FinM ResM
inductive Exp where
  | mk (op n u : Int) (s : Str) (l : List Exp)
instance : Inhabited Exp := ⟨.mk 0 0 0 [] []⟩
def Exp.op : Exp → Int | .mk op _ _ _ _ => op
def Exp.n : Exp → Int | .mk _ n _ _ _ => n
def Exp.u : Exp → Int | .mk _ _ u _ _ => u
def Exp.s : Exp → Str | .mk _ _ _ s _ => s
def Exp.args : Exp → List Exp | .mk _ _ _ _ l => l
mutual
def encE : Exp → List Cell
  | .mk op n u s l => [.int .i64 op, .int .i64 n, .int .i64 u, .str s, .sl (encEs l)]
def encEs : List Exp → List (List Cell)
  | [] => []
  | e :: r => encE e :: encEs r
end
theorem encEs_map : ∀ l, encEs l = l.map encE
  | [] => by simp [encEs]
  | e :: r => by rw [encEs, encEs_map r]; rfl
theorem encE_mk (op n u : Int) (s : Str) (l : List Exp) : encE (.mk op n u s l) = [.int .i64 op, .int .i64 n, .int .i64 u, .str s, .sl (l.map encE)] := by rw [encE, encEs_map]
def encX (e : Exp) : List Cell := [.int .i64 e.op, .int .i64 e.n, .int .i64 e.u, .str e.s, .sl (e.args.map encE)]
theorem encE_fun : encE = encX := funext fun e => by obtain ⟨op, n, u, s, l⟩ := e; exact encE_mk op n u s l
abbrev aE (e : Exp) : PV := .agg (encX e)
abbrev slE (l : List Exp) : PV := .one (.sl (l.map encX))
theorem aE_mk (op n u : Int) (s : Str) (l : List Exp) : aE (.mk op n u s l) = .agg [.int .i64 op, .int .i64 n, .int .i64 u, .str s, .sl (l.map encX)] := by
  show PV.agg [_, _, _, _, Cell.sl (l.map encE)] = _
  rw [encE_fun]; rfl
def encJ (n : Int) : List Cell := [.int .i64 n]
abbrev slJ (l : List Int) : PV := .one (.sl (l.map encJ))
mutual
theorem Exp.ind {P : Exp → Prop} (h : ∀ op n u s l, (∀ x ∈ l, P x) → P (.mk op n u s l)) : ∀ e, P e
  | .mk op n u s l => h op n u s l (Exp.inds h l)
theorem Exp.inds {P : Exp → Prop} (h : ∀ op n u s l, (∀ x ∈ l, P x) → P (.mk op n u s l)) : ∀ l : List Exp, ∀ x ∈ l, P x
  | [], x, hx => by cases hx
  | e :: r, x, hx => match List.mem_cons.1 hx with
    | .inl h1 => h1 ▸ Exp.ind h e
    | .inr h2 => Exp.inds h r x h2
end
inductive OkE : Exp → Prop
  | mk {op n u : Int} {s : Str} {l : List Exp} (hs : s.length ≤ 9223372036854775807) (hl : l.length ≤ 9223372036854775807) (h : ∀ x ∈ l, OkE x) : OkE (.mk op n u s l)
def fidx {α : Type} (p : α → Bool) (l : List α) : Int := if l.any p then ((l.findIdx p : Nat) : Int) else -1
theorem any_take {α : Type} [Inhabited α] {l : List α} {p : α → Bool} {k : Nat} (h : k < l.length) : (l.take (k + 1)).any p = ((l.take k).any p || p (nth l k)) := by
  rw [take_nth h]; simp
theorem fidx_nn {α : Type} (p : α → Bool) (l : List α) : decide (fidx p l ≥ 0) = l.any p := by
  unfold fidx
  cases h : l.any p <;> simp
theorem fidx_hit {α : Type} [Inhabited α] {l : List α} {p : α → Bool} {k : Nat} (h : k < l.length) (h1 : (l.take k).any p = false) (h2 : p (nth l k) = true) : fidx p l = k := by
  have ha : l.any p = true := List.any_eq_true.2 ⟨nth l k, nth_mem h, h2⟩
  rw [fidx, if_pos ha]
  have : l.findIdx p = k := by
    rw [List.findIdx_eq h]
    refine ⟨by rw [← nth_eq h]; exact h2, fun j hj => ?_⟩
    have hm : l[j] ∈ l.take k := List.mem_take_iff_getElem.2 ⟨j, by omega, rfl⟩
    cases hp : p l[j] with
    | false => rfl
    | true => rw [List.any_eq_true.2 ⟨_, hm, hp⟩] at h1; cases h1
  rw [this]
theorem fidx_miss {α : Type} {l : List α} {p : α → Bool} (h : l.any p = false) : fidx p l = -1 := by rw [fidx, if_neg (by rw [h]; simp)]
theorem indexE_ok (l : List Exp) (f : Nat) (caps : List Cell) (p : Exp → Bool) (hl : l.length ≤ 9223372036854775807) (hp : ∀ x ∈ l, ACalls Try.prog f (aE x :: caps.map PV.one) (.pv (cB (p x)))) : ACalls Try.prog 65 [slE l, .one (.fn f caps)] (.pv (cI (fidx p l))) := by
  refine ACalls.of_W (qs := [cI (fidx p l)]) [4] 19 Try.func65 (by kernel_rfl) rfl rfl rfl fun G => ?_
  refine W.initA (hw := ?_)
  repeat' (first | ((first | apply U_); (first | exact QX.B TYok | exact QX.Len TYok | exact QX.Idx TYok); exact rfl) | refine SC ?_ | (refine W.condA (ht := fun hb => ?_) (hf := fun hb => ?_) <;> (try simp at hb) <;> (try (exfalso; omega))))
  apply W.loopP (σ := Nat) 19 [0, 1, 7] (fun k => k ≤ l.length ∧ (l.take k).any p = false) (fun k => [(8, vI k)]) (fun _ => []) (fun k => l.length - k) (0)
  case hp => repeat (first | exact Pick.nil | apply Pick.cons rfl)
  case h0 =>
    refine ⟨by simp, ?_⟩
    exact Le.auto
  case round =>
    rintro k ⟨h1, h2⟩
    apply W.norm (by repeat (first | exact App.nil | apply App.cons))
    by_cases hk : k < l.length
    · repeat' (first | ((first | apply U_); (first | exact QX.B TYok | exact QX.Len TYok | exact QX.Idx TYok | (apply Q_callvA (hp (nth l k) (nth_mem hk)); exact Ev.auto; exact EvA.auto)); exact rfl) | refine SC ?_ | (refine W.condA (ht := fun hb => ?_) (hf := fun hb => ?_) <;> (try simp at hb) <;> (try (exfalso; omega))))
      · rw [fidx_hit ‹_› h2 hb]
        exact Fin.ret ResL.auto
      · refine ⟨k + 1, ⟨by omega, ?_⟩, ?_, ?_⟩
        · rw [any_take ‹_›, h2, hb]; rfl
        · exact Le.auto
        · (try simp only); omega
    · obtain rfl : k = l.length := by omega
      rw [List.take_length] at h2
      repeat' (first | ((first | apply U_); (first | exact QX.B TYok | exact QX.Len TYok | exact QX.Idx TYok); exact rfl) | refine SC ?_ | (refine W.condA (ht := fun hb => ?_) (hf := fun hb => ?_) <;> (try simp at hb) <;> (try (exfalso; omega))))
      rw [fidx_miss h2]
      exact Fin.ret ResL.auto
theorem indexI_ok (l : List Int) (f : Nat) (caps : List Cell) (p : Int → Bool) (hl : l.length ≤ 9223372036854775807) (hp : ∀ x ∈ l, ACalls Try.prog f (cI x :: caps.map PV.one) (.pv (cB (p x)))) : ACalls Try.prog 68 [slJ l, .one (.fn f caps)] (.pv (cI (fidx p l))) := by
  refine ACalls.of_W (qs := [cI (fidx p l)]) [4] 19 Try.func68 (by kernel_rfl) rfl rfl rfl fun G => ?_
  refine W.initA (hw := ?_)
  repeat' (first | ((first | apply U_); (first | exact QX.B TYok | exact QX.Len TYok | exact QX.Idx TYok); exact rfl) | refine SC ?_ | (refine W.condA (ht := fun hb => ?_) (hf := fun hb => ?_) <;> (try simp at hb) <;> (try (exfalso; omega))))
  apply W.loopP (σ := Nat) 19 [0, 1, 7] (fun k => k ≤ l.length ∧ (l.take k).any p = false) (fun k => [(8, vI k)]) (fun _ => []) (fun k => l.length - k) (0)
  case hp => repeat (first | exact Pick.nil | apply Pick.cons rfl)
  case h0 =>
    refine ⟨by simp, ?_⟩
    exact Le.auto
  case round =>
    rintro k ⟨h1, h2⟩
    apply W.norm (by repeat (first | exact App.nil | apply App.cons))
    by_cases hk : k < l.length
    · repeat' (first | ((first | apply U_); (first | exact QX.B TYok | exact QX.Len TYok | exact QX.Idx TYok | (apply Q_callvA (hp (nth l k) (nth_mem hk)); exact Ev.auto; exact EvA.auto)); exact rfl) | refine SC ?_ | (refine W.condA (ht := fun hb => ?_) (hf := fun hb => ?_) <;> (try simp at hb) <;> (try (exfalso; omega))))
      · rw [fidx_hit ‹_› h2 hb]
        exact Fin.ret ResL.auto
      · refine ⟨k + 1, ⟨by omega, ?_⟩, ?_, ?_⟩
        · rw [any_take ‹_›, h2, hb]; rfl
        · exact Le.auto
        · (try simp only); omega
    · obtain rfl : k = l.length := by omega
      rw [List.take_length] at h2
      repeat' (first | ((first | apply U_); (first | exact QX.B TYok | exact QX.Len TYok | exact QX.Idx TYok); exact rfl) | refine SC ?_ | (refine W.condA (ht := fun hb => ?_) (hf := fun hb => ?_) <;> (try simp at hb) <;> (try (exfalso; omega))))
      rw [fidx_miss h2]
      exact Fin.ret ResL.auto
theorem containsE_ok (l : List Exp) (f : Nat) (caps : List Cell) (p : Exp → Bool) (hl : l.length ≤ 9223372036854775807) (hp : ∀ x ∈ l, ACalls Try.prog f (aE x :: caps.map PV.one) (.pv (cB (p x)))) : ACalls Try.prog 49 [slE l, .one (.fn f caps)] (.pv (cB (l.any p))) := by
  refine ACalls.of_W (qs := [cB (l.any p)]) [4] 9 Try.func49 (by kernel_rfl) rfl rfl rfl fun G => ?_
  refine W.initA (hw := ?_)
  repeat' (first | ((first | apply U_); (first | exact QX.B TYok | exact QCl (indexE_ok l f caps p hl hp)); exact rfl) | refine SC ?_ | (refine W.condA (ht := fun hb => ?_) (hf := fun hb => ?_) <;> (try simp at hb) <;> (try (exfalso; omega))))
  rw [← fidx_nn]
  exact Fin.ret ResL.auto
theorem containsI_ok (l : List Int) (f : Nat) (caps : List Cell) (p : Int → Bool) (hl : l.length ≤ 9223372036854775807) (hp : ∀ x ∈ l, ACalls Try.prog f (cI x :: caps.map PV.one) (.pv (cB (p x)))) : ACalls Try.prog 53 [slJ l, .one (.fn f caps)] (.pv (cB (l.any p))) := by
  refine ACalls.of_W (qs := [cB (l.any p)]) [4] 9 Try.func53 (by kernel_rfl) rfl rfl rfl fun G => ?_
  refine W.initA (hw := ?_)
  repeat' (first | ((first | apply U_); (first | exact QX.B TYok | exact QCl (indexI_ok l f caps p hl hp)); exact rfl) | refine SC ?_ | (refine W.condA (ht := fun hb => ?_) (hf := fun hb => ?_) <;> (try simp at hb) <;> (try (exfalso; omega))))
  rw [← fidx_nn]
  exact Fin.ret ResL.auto
end Go.Proofs.Ytppdbmobcfedcaa
end
section
set_option linter.unusedVariables false
set_option linter.unusedSimpArgs false
namespace Lf
open Go
def encI (n : Int) : List Cell := [.int .i64 n]
end Lf
end
section
set_option linter.unusedVariables false
set_option linter.unusedSimpArgs false
set_option linter.unusedSectionVars false
namespace Lf
section
open Go Go.RowKit
section
variable {P : Program} {G : Ghost} {A : St} {Φ : Frz} {β : Own} {a : Act} {w : World} {T : TT} (hT : TOK P T)
include hT
theorem lit_run (hs : Sat G Φ β A a w) {t e n : Nat} {ps : List (Nat × Operand)} {rs : List (List Cell)} {ti te : TI} (ht : T t = some ti) (hk : ti.kind = .slice e) (he : T e = some te)
    (hx : EvR A ps 0 rs) (hlen : rs.length = n) (hrs : ∀ r ∈ rs, r.length = te.sz) (hb : n * te.sz ≤ 16777216) : ∃ out : Array Value, (Instr.buildSlice t n (ps.toArray.map fun (i, x) => (i, a.eval x))).run P w = .ok (.slice (some ⟨w.heap.size, 0, none⟩) n n) (w.alloc (.cells out e)) ∧ out.size = n * te.sz ∧
      ∀ (i j : Nat) (r : List Cell) (c : Cell), rs[i]? = some r → r[j]? = some c → ∃ v, out[i * te.sz + j]? = some v ∧ Rel Φ v c  := by
  have hu : P.underlying t = some (.slice e) := by have := (hT _ _ ht).kind; rw [hk] at this; exact this
  obtain ⟨i, hi, hisz, hib, z, hzz, hrel⟩ := (hT e te he).info
  have e2 : (ps.toArray.map fun (x : Nat × Operand) => (x.1, a.eval x.2)).toList = ps.map fun (i, x) => (i, a.eval x) := by simp
  have hz : (zeroValue e).run P w = .ok z w := by simp [zeroValue, typeInfo, hi, hzz]
  have hb' : ¬ (2 ^ 24 < n * te.sz) := by omega
  have main : ∀ (Z : Array Value), Z.size = n * te.sz → (∀ out, Instr.fill (fun i => some (i * te.sz, te.sz)) Z (ps.map fun (i, x) => (i, a.eval x)) = some out → (Instr.buildSlice t n (ps.toArray.map fun (i, x) => (i, a.eval x))).run P w = .ok (.slice (some ⟨w.heap.size, 0, none⟩) n n) (w.alloc (.cells out e))) →
      ∃ out : Array Value, (Instr.buildSlice t n (ps.toArray.map fun (i, x) => (i, a.eval x))).run P w = .ok (.slice (some ⟨w.heap.size, 0, none⟩) n n) (w.alloc (.cells out e)) ∧ out.size = n * te.sz ∧
        ∀ (i j : Nat) (r : List Cell) (c : Cell), rs[i]? = some r → r[j]? = some c → ∃ v, out[i * te.sz + j]? = some v ∧ Rel Φ v c := fun Z hZ hrun => by
    obtain ⟨out, k1, k2, _, k4⟩ := fillR_run hs (sz := te.sz) hx hrs (cells := Z) (by rw [hZ, hlen, Nat.zero_add])
    exact ⟨out, hrun out k1, by rw [k2, hZ], fun i j r c hi hj => by have := k4 i j r c hi hj; rwa [Nat.zero_add] at this⟩
  by_cases h0 : n * te.sz = 0
  · refine main ((Array.range (n * te.sz)).map ((#[] : Array Value)[· % (#[] : Array Value).size]!)) (by rw [Array.size_map, Array.size_range]) fun out k1 => ?_
    rw [h0] at k1
    simp only [Instr.buildSlice, Sem.run_bind, run_underlying hu, Result.andThen_ok, run_sizeOf hT he]
    rw [if_neg hb']
    simp only [h0, if_true, Sem.run_pure, Sem.run_bind, Result.andThen_ok]
    rw [e2, k1]
    rfl
  · refine main ((Array.range (n * te.sz)).map (z.cells[· % z.cells.size]!)) (by rw [Array.size_map, Array.size_range]) fun out k1 => ?_
    simp only [Instr.buildSlice, Sem.run_bind, run_underlying hu, Result.andThen_ok, run_sizeOf hT he]
    rw [if_neg hb']
    simp only [h0, if_false, Sem.run_pure, Sem.run_bind, Result.andThen_ok, hz]
    rw [e2, k1]
    rfl
theorem P_litD {o : Oper} {p : Prop} {t e n : Nat} {ps : List (Nat × Operand)} {rs : List (List Cell)} {ti te : TI} (ho : o.op = .buildSlice t n ps.toArray) (ht : T t = some ti) (hk : ti.kind = .slice e) (he : T e = some te)
    (hx : EvR A ps 0 rs) (hlen : rs.length = n) (hrs : ∀ r ∈ rs, r.length = te.sz) (hb : n * te.sz ≤ 16777216) : PureOp P G A o p (.pv (.one (.sl rs))) := fun Φ β a w hs hp => by
  obtain ⟨out, h1, h2, h3⟩ := lit_run hT hs ht hk he hx hlen hrs hb
  have hx1 : (execOp a.eval o).run P w = .ok (.value (.slice (some ⟨w.heap.size, 0, none⟩) n n)) (w.alloc (.cells out e)) := by
    have e3 : execOp a.eval o = (do pure (.value (← Instr.buildSlice t n (ps.toArray.map fun (i, x) => (i, a.eval x))))) := by simp only [execOp, ho]
    rw [e3, Sem.run_bind, h1]; rfl
  unfold Oper.wp
  rw [hx1]
  have hno : ∀ b c, Φ b = some c → b < w.heap.size := fun b c h => by
    obtain ⟨E, fz, hw⟩ := hs.fits b c h
    exact (Array.getElem?_eq_some_iff.1 hw).1
  have hold : ∀ b, b < w.heap.size → (w.alloc (.cells out e)).heap[b]? = w.heap[b]? := fun b hb => heap_alloc_old w _ hb
  refine ⟨_, fun c => if c = w.heap.size then some out else Φ c, rfl, ?_, fun b c h => ?_, fun b hb => ?_, fun b c h => ?_, ?_⟩
  · show Rel _ _ _
    refine .sl w.heap.size 0 n n te.sz rs (fun i j => (out[i * te.sz + j]?).getD undef) hlen (Nat.le_refl _) hrs (fun i j r c hi hj => ?_) (fun i j r c hi hj => ?_)
    · obtain ⟨v, q1, q2⟩ := h3 i j r c hi hj
      simp [q1]
    · obtain ⟨v, q1, q2⟩ := h3 i j r c hi hj
      rw [q1]
      refine q2.mono fun b c h => ?_
      have := hno b c h
      show (if b = w.heap.size then some out else Φ b) = some c
      rw [if_neg (by omega)]; exact h
  · have := hno b c h
    show (if b = w.heap.size then some out else Φ b) = some c
    rw [if_neg (by omega)]; exact h
  · show (if b = w.heap.size then some out else Φ b) = Φ b
    rw [if_neg (by omega)]
  · simp only at h
    split at h
    · rename_i e1; subst e1; cases h
      exact ⟨e, (0, 0), heap_alloc_new w _⟩
    · obtain ⟨E, fz, hw⟩ := hs.fits b c h
      exact ⟨E, fz, by rw [hold b (hno b c h)]; exact hw⟩
  · exact Below.alloc (Below.refl _ _) (Nat.le_refl _) _
end
section
variable {P : Program} {G : Ghost} {n0 : Nat} {env : List (Nat × (Prop × AV))} {bl : List (Nat × Blk)} {p : Prop} {dst : Option Nat} {ty : TypeId} {pos : String} {after : Array Edge} {gd : Option (Nat × Bool)} {T : TT} (hT : TOK P T)
include hT
theorem Q_litD {t e n : Nat} {ps : List (Nat × Operand)} {rs : List (List Cell)} {ti te : TI} (hx : EvR (St.mk n0 env bl) ps 0 rs) (ht : T t = some ti) (hk : ti.kind = .slice e) (he : T e = some te) (hlen : rs.length = n) (hrs : rs.all (fun r => Nat.beq r.length te.sz) = true)
    (hb : Nat.ble (n * te.sz) 16777216 = true) : PureOp P G (St.mk n0 env bl) ⟨dst, .buildSlice t n ps.toArray, ty, pos, after, gd⟩ p (.pv (.one (.sl rs))) :=
  P_litD hT rfl ht hk he hx hlen (fun r hr => Nat.eq_of_beq_eq_true (List.all_eq_true.1 hrs r hr)) (Nat.le_of_ble_eq_true hb)
end
end
section
open Go Go.RowKit
section
variable {P : Program} {G : Ghost} {n0 : Nat} {env : List (Nat × (Prop × AV))} {bl : List (Nat × Blk)} {p : Prop} {dst : Option Nat} {ty : TypeId} {pos : String} {after : Array Edge} {gd : Option (Nat × Bool)}
end
end
section
open Go Go.RowKit
section
variable {P : Program} {G : Ghost} {A : St} {T : TT} (hT : TOK P T)
include hT
end
section
variable {P : Program} {G : Ghost} {n0 : Nat} {env : List (Nat × (Prop × AV))} {bl : List (Nat × Blk)} {p : Prop} {dst : Option Nat} {ty : TypeId} {pos : String} {after : Array Edge} {gd : Option (Nat × Bool)} {T : TT} (hT : TOK P T)
include hT
end
end
end Lf
end
section
set_option linter.unusedVariables false
set_option linter.unusedSimpArgs false
set_option maxHeartbeats 8000000
set_option linter.unusedSectionVars false
namespace Go.Proofs.Ytppdbmobcfedcaa
open Lf Go
attribute [local irreducible] PureOp EffOp Ev RG W Then InBlock Lf.Fin nth App InitE Pick SubE EvL EvD EvP EvR ResL Lf.Lex SubR SubBR RA RAll EvC FinO FinM ResM
theorem PureOp.given {P : Program} {G : Ghost} {A : St} {o : Oper} {p : Prop} {v : AV} (h : p → PureOp P G A o p v) : PureOp P G A o p v := by
  unfold PureOp at h ⊢
  exact fun Φ β a w hs hp => h hp Φ β a w hs hp
theorem Q_litDp {P : Program} {G : Ghost} {T : TT} (hT : TOK P T) {n0 : Nat} {env : List (Nat × (Prop × AV))} {bl : List (Nat × Blk)} {p : Prop} {dst : Option Nat} {ty : TypeId} {pos : String} {after : Array Edge} {gd : Option (Nat × Bool)} {t e n : Nat} {ps : List (Nat × Operand)} {rs : List (List Cell)} {ti te : TI} (hx : p → EvR (St.mk n0 env bl) ps 0 rs) (ht : T t = some ti) (hk : ti.kind = .slice e) (he : T e = some te) (hlen : rs.length = n) (hrs : rs.all (fun r => Nat.beq r.length te.sz) = true)
    (hb : Nat.ble (n * te.sz) 16777216 = true) : PureOp P G (St.mk n0 env bl) ⟨dst, .buildSlice t n ps.toArray, ty, pos, after, gd⟩ p (.pv (.one (.sl rs))) := PureOp.given fun hp => Q_litD hT (hx hp) ht hk he hlen hrs hb
def inF (a b n : Int) : Bool := decide (a ≤ n) && decide (n ≤ b)
theorem in1_ok (a b n : Int) : ACalls Try.prog 54 [cI n, .one (.ptr [.int .i64 a]), .one (.ptr [.int .i64 b])] (.pv (cB (!inF a b n))) := by
  refine ACalls.of_W (qs := [cB (!inF a b n)]) [4] 13 Try.func54 (by kernel_rfl) rfl rfl rfl fun G => ?_
  refine W.initA (hw := ?_)
  repeat' (first | ((first | apply U_ | (apply Ug_; exact rfl; exact rfl) | (apply Ugq_; exact rfl; exact rfl)); (first | exact QX.B TYok); exact rfl) | refine SC ?_ | refine SG ?_ | (refine W.condA (ht := fun hb => ?_) (hf := fun hb => ?_) <;> (try simp at hb) <;> (try (exfalso; omega))))
  have e : (!inF a b n) = (decide (n < a) || decide (n > b)) := by
    rw [Bool.eq_iff_iff]; simp [inF] <;> omega
  rw [e]
  exact Fin.ret ResL.auto
theorem in_ok (a b : Int) (l : List Int) (hl : l.length ≤ 9223372036854775807) : ACalls Try.prog 34 [cI a, cI b, slJ l] (.pv (cB (l.all (inF a b)))) := by
  refine ACalls.of_W (qs := [cB (l.all (inF a b))]) [6] 11 Try.func34 (by kernel_rfl) rfl rfl rfl fun G => ?_
  refine W.initA (hw := ?_)
  repeat' (first | ((first | apply U_); (first | exact QX.B TYok | exact QX.Fun TYok | exact QCd (containsI_ok l 54 [.ptr [.int .i64 a], .ptr [.int .i64 b]] (fun n => !inF a b n) hl (fun n _ => in1_ok a b n))); exact rfl) | refine SX.Box TYok (h := ?_) | (refine S_makeFuncF (cs := [.ptr [.int .i64 a], .ptr [.int .i64 b]]) (EvC.cons Ev.auto (EvC.cons Ev.auto EvC.nil)) ?_ ?_; exact rfl) | refine SC ?_ | (refine W.condA (ht := fun hb => ?_) (hf := fun hb => ?_) <;> (try simp at hb) <;> (try (exfalso; omega))))
  have e : l.all (inF a b) = !(l.any fun n => !inF a b n) := by
    rw [Bool.eq_iff_iff]; simp
  rw [e]
  exact Fin.ret ResL.auto
/-- the empty string, as1 the program writes it -/
abbrev E0 : Str := (ByteArray.mk #[]).data.toList
def opsF (op : Int) : Int := if op = 0 ∨ op = 1 ∨ op = 2 ∨ op = 3 then 0 else if op = 12 ∨ op = 16 ∨ op = 17 ∨ op = 18 then 1 else if op = 15 then 3 else if op < 0 ∨ op ≥ 19 then -1 else 2
theorem operands_ok (op : Int) : ACalls Try.prog 60 [cI op] (.pv (cI (opsF op))) := by
  refine ACalls.of_W (qs := [cI (opsF op)]) [2] 22 Try.func60 (by kernel_rfl) rfl rfl rfl fun G => ?_
  refine W.initA (hw := ?_)
  repeat' (first | ((first | apply U_ | (apply Ug_; exact rfl; exact rfl) | (apply Ugq_; exact rfl; exact rfl)); (first | exact QX.B TYok); exact rfl) | refine SC ?_ | (apply S_isnil TYok; exact rfl; exact rfl; exact rfl; exact Ev.auto; intro bn hnil) | refine SG ?_ | (refine W.condA (ht := fun hb => ?_) (hf := fun hb => ?_) <;> (try simp at hb) <;> (try (exfalso; omega))))
  all_goals first
    | (rw [opsF, if_pos (by omega)]; exact Fin.ret ResL.auto)
    | (rw [opsF, if_neg (by omega), if_pos (by omega)]; exact Fin.ret ResL.auto)
    | (rw [opsF, if_neg (by omega), if_neg (by omega), if_pos (by omega)]; exact Fin.ret ResL.auto)
    | (rw [opsF, if_neg (by omega), if_neg (by omega), if_neg (by omega), if_pos (by omega)]; exact Fin.ret ResL.auto)
    | (rw [opsF, if_neg (by omega), if_neg (by omega), if_neg (by omega), if_neg (by omega)]; exact Fin.ret ResL.auto)
def rightF : Nat → Exp → Bool
  | 0, _ => false
  | d + 1, .mk op n u s l => decide ((l.length : Int) = opsF op) && (if op = 0 then decide (s = []) && inF 0 4 u && inF 0 (if u = 4 then 1 else 1000000000000000) n else if op = 1 ∨ op = 2 ∨ op = 3 then decide (n = 0) && decide (u = 0) && nameF s
    else if op = 16 ∨ op = 17 ∨ op = 18 then decide (u = 0) && decide (s = []) && inF 1 1000 n && l.all (rightF d) else decide (n = 0) && decide (u = 0) && decide (s = []) && l.all (rightF d))
end Go.Proofs.Ytppdbmobcfedcaa
end
section
set_option linter.unusedVariables false
set_option linter.unusedSimpArgs false
namespace Lf
open Go
def PN (A : St) : List Nat → List (Nat × (Prop × AV)) → List Nat → Prop
  | [], E, ns => E = [] ∧ ns = []
  | t :: ts, E, ns => PN A ts E ns ∨ ∃ q v E' ns', lk A.env t = some (q, v) ∧ E = (t, (q, v)) :: E' ∧ PN A ts E' ns' ∧
      match v with
      | .addr n _ _ | .slc n | .mp n | .mpn n _ | .pin n _ _ _ => ns = n :: ns'
      | .itr d n => ns = d :: n :: ns'
      | _ => ns = ns'
def PB (A : St) : List Nat → List (Nat × Blk) → Prop
  | [], bl => bl = []
  | n :: ns, bl => ∃ B bl', lk A.blks n = some B ∧ bl = (n, B) :: bl' ∧ PB A ns bl'
section
variable {A : St} {ts ns : List Nat} {t : Nat} {q : Prop} {E : List (Nat × (Prop × AV))} {bl : List (Nat × Blk)}
theorem PN.nil : PN A [] [] [] := ⟨rfl, rfl⟩
theorem PN.skip (h : PN A ts E ns) : PN A (t :: ts) E ns := .inl h
theorem PN.p {p : PV} (h : lk A.env t = some (q, .pv p)) (hr : PN A ts E ns) : PN A (t :: ts) ((t, (q, .pv p)) :: E) ns := .inr ⟨_, _, _, _, h, rfl, hr, rfl⟩
theorem PN.a {n i off : Nat} (h : lk A.env t = some (q, .addr n i off)) (hr : PN A ts E ns) : PN A (t :: ts) ((t, (q, .addr n i off)) :: E) (n :: ns) := .inr ⟨_, _, _, _, h, rfl, hr, rfl⟩
theorem PN.s {n : Nat} (h : lk A.env t = some (q, .slc n)) (hr : PN A ts E ns) : PN A (t :: ts) ((t, (q, .slc n)) :: E) (n :: ns) := .inr ⟨_, _, _, _, h, rfl, hr, rfl⟩
theorem PN.k {n b c : Nat} {f : Nat → Value} (h : lk A.env t = some (q, .pin n b c f)) (hr : PN A ts E ns) : PN A (t :: ts) ((t, (q, .pin n b c f)) :: E) (n :: ns) := .inr ⟨_, _, _, _, h, rfl, hr, rfl⟩
def NR (l m : List Cell) : Prop := l = m
theorem NR.nil {l : List Cell} (h : l = []) : NR l [] := h
theorem NR.cons {l r m : List Cell} {c : Cell} (h : l = c :: r) (h' : NR r m) : NR l (c :: m) := by
  have e : r = m := h'
  subst e; exact h
theorem PN.po {c : Cell} (h : lk A.env t = some (q, .pv (.one c))) (hr : PN A ts E ns) : PN A (t :: ts) ((t, (q, .pv (.one c))) :: E) ns := PN.p h hr
theorem PB.nil : PB A [] [] := rfl
theorem PB.one {n T sz : Nat} {B : Blk} {row row' : List Cell} (h : lk A.blks n = some B) (hT : B.E = T) (hs : B.sz = sz) (hrow : B.rows = [row]) (hr' : NR row row') (hr : PB A ns bl) : PB A (n :: ns) ((n, ⟨T, sz, [row']⟩) :: bl) := by
  have e : row = row' := hr'
  subst e
  obtain ⟨a, b, c⟩ := B
  simp only at hT hs hrow
  subst hT; subst hs; subst hrow
  exact ⟨_, _, h, rfl, hr⟩
theorem PB.cons {n T sz : Nat} {rows : List (List Cell)} (h : lk A.blks n = some ⟨T, sz, rows⟩) (hr : PB A ns bl) : PB A (n :: ns) ((n, ⟨T, sz, rows⟩) :: bl) := ⟨_, _, h, rfl, hr⟩
end
theorem PB.get {A : St} : ∀ {ns : List Nat} {bl : List (Nat × Blk)}, PB A ns bl → ∀ n ∈ ns, lk bl n = lk A.blks n
  | [], _, _, n, hn => by cases hn
  | m :: ns, _, ⟨B, bl', h1, rfl, h2⟩, n, hn => by
    rw [lk_cons]
    split
    · rename_i e; subst e; exact h1.symm
    · rename_i e
      rcases List.mem_cons.1 hn with rfl | hn
      · exact absurd rfl e
      · exact PB.get h2 n hn
theorem PB.sub {A : St} : ∀ {ns : List Nat} {bl : List (Nat × Blk)}, PB A ns bl → SubB A bl
  | [], _, h => by
    have e : _ = [] := h
    rw [e]; trivial
  | m :: ns, _, ⟨B, bl', h1, rfl, h2⟩ => ⟨h1, PB.sub h2⟩
theorem PN.sub {A : St} {bl : List (Nat × Blk)} : ∀ {ts : List Nat} {E : List (Nat × (Prop × AV))} {ns : List Nat}, PN A ts E ns → (∀ n ∈ ns, lk bl n = lk A.blks n) → SubE A bl E
  | [], _, _, h, _ => by
    obtain ⟨rfl, _⟩ := (h : _ = [] ∧ _ = [])
    trivial
  | t :: ts, E, ns, h, hn => by
    rcases (h : PN A ts E ns ∨ _) with h | ⟨q, v, E', ns', h1, rfl, h2, h3⟩
    · exact PN.sub h hn
    · refine ⟨⟨h1, ?_⟩, PN.sub h2 fun n hm => hn n ?_⟩
      · cases v with
        | pv p => trivial
        | tup l => trivial
        | top => trivial
        | addr n i off => exact hn n (by rw [show ns = n :: ns' from h3]; simp)
        | slc n => exact hn n (by rw [show ns = n :: ns' from h3]; simp)
        | mp n => exact hn n (by rw [show ns = n :: ns' from h3]; simp)
        | mpn n bb => exact hn n (by rw [show ns = n :: ns' from h3]; simp)
        | pin n b c f => exact hn n (by rw [show ns = n :: ns' from h3]; simp)
        | itr d n => exact ⟨hn d (by rw [show ns = d :: n :: ns' from h3]; simp), hn n (by rw [show ns = d :: n :: ns' from h3]; simp)⟩
      · cases v with
        | pv p => rw [show ns = ns' from h3]; exact hm
        | tup l => rw [show ns = ns' from h3]; exact hm
        | top => rw [show ns = ns' from h3]; exact hm
        | addr m i off => rw [show ns = m :: ns' from h3]; exact List.mem_cons_of_mem _ hm
        | slc m => rw [show ns = m :: ns' from h3]; exact List.mem_cons_of_mem _ hm
        | mp m => rw [show ns = m :: ns' from h3]; exact List.mem_cons_of_mem _ hm
        | mpn m bb => rw [show ns = m :: ns' from h3]; exact List.mem_cons_of_mem _ hm
        | pin m b c f => rw [show ns = m :: ns' from h3]; exact List.mem_cons_of_mem _ hm
        | itr d m => rw [show ns = d :: m :: ns' from h3]; exact List.mem_cons_of_mem _ (List.mem_cons_of_mem _ hm)
theorem W.purgeR {P : Program} {G : Ghost} {Q : Exit → St → Prop} {n id : Nat} {env : List (Nat × (Prop × AV))} {bl0 : List (Nat × Blk)} {ops : Array Oper} {late : Bool} {y : Code} {ts ns : List Nat} {E : List (Nat × (Prop × AV))} {bl : List (Nat × Blk)} (tab : List (Nat × List Nat)) (ht : lk tab id = some ts)
    (hp : PN (St.mk n env bl0) ts E ns) (hb : PB (St.mk n env bl0) ns bl) (hw : W P G (.region id ops late) (Then (W P G y Q) Q) (St.mk n E bl)) : W P G (.seq (.region id ops late) y) Q (St.mk n env bl0) :=
  W.seq (W.weaken (Le.mk (B := St.mk n E bl) rfl (PN.sub hp (PB.get hb)) (PB.sub hb)) hw)
attribute [irreducible] PN PB NR
end Lf
end
section
set_option linter.unusedVariables false
set_option linter.unusedSimpArgs false
namespace Lf
open Go Go.RowKit
section
variable {l : List Oper} {ms : List Nat} {tss : List (List Nat)} {m u du : Nat}
end
section
variable {P : Program} {G : Ghost} {n : Nat} {bl : List (Nat × Blk)}
end
/-- Ways that meet again, the code behind being on the stack already. -/
theorem cutK {P : Program} {G : Ghost} {A : St} {Q Q' : Exit → St → Prop} {x y : Code} {σ : Type _} (n : Nat) (keep : List Nat) (inv : σ → Prop) (f : σ → List (Nat × (Prop × AV))) (bl : σ → List (Nat × Blk)) {E : List (Nat × (Prop × AV))} (hp : Pick A keep E)
    (hx : Lf.W P G x (Then (fun A' => ∃ s', inv s' ∧ Le A' (mkSt n (f s') E (bl s'))) Q') A) (hy : ∀ s, inv s → Lf.W P G y Q (mkSt n (f s) E (bl s))) : Lf.W P G x (Then (Lf.W P G y Q) Q') A :=
  Lf.W.mono hx fun e A' h => by
    cases e with
    | normal => obtain ⟨s', h1, h2⟩ := h; exact Lf.W.weaken h2 (hy s' h1)
    | exit id => exact h
    | goto id => exact h
    | ret => exact h
    | panic c => exact h
    | outgrown => exact h
end Lf
end
section
set_option linter.unusedVariables false
set_option linter.unusedSimpArgs false
namespace Lf
open Go Go.RowKit
def bitN (m e : Nat) : Bool := Nat.beq (m / 2 ^ e % 2) 1
theorem bitN_eq (m e : Nat) : bitN m e = m.testBit e := by
  rw [Nat.testBit_eq_decide_div_mod_eq, bitN]
  by_cases h : m / 2 ^ e % 2 = 1
  · rw [h]; rfl
  · rw [decide_eq_false h]
    cases hb : Nat.beq (m / 2 ^ e % 2) 1 with
    | false => rfl
    | true => exact absurd (Nat.eq_of_beq_eq_true hb) h
abbrev Effs := List (Nat × (Nat × Blk))
def bL (L : Nat → Bool) : Effs → List (Nat × Blk) → List (Nat × Blk)
  | [], bl => bl
  | (e, x) :: r, bl => bif L e then x :: bL L r bl else bL L r bl
theorem bL_eq (L : Nat → Bool) (bl : List (Nat × Blk)) : ∀ effs : Effs, bL L effs bl = (effs.filter fun x => L x.1).map (·.2) ++ bl
  | [] => rfl
  | (e, x) :: r => by
    rw [bL, bL_eq L bl r, List.filter_cons]
    cases h : L e <;> simp [h]
def ndB : List Nat → Bool
  | [] => true
  | x :: r => r.all (fun y => !Nat.beq x y) && ndB r
theorem ndB_inj {α : Type _} {f : α → Nat} : ∀ {l : List α}, ndB (l.map f) = true → ∀ a ∈ l, ∀ b ∈ l, f a = f b → a = b
  | x :: r, h, a, ha, b, hb, e => by
    rw [List.map_cons, ndB, Bool.and_eq_true] at h
    have h1 : ∀ y ∈ r, f x ≠ f y := fun y hy q => by
      have := List.all_eq_true.1 h.1 (f y) (List.mem_map_of_mem hy)
      rw [q] at this; simp at this
    rcases List.mem_cons.1 ha with ha' | ha' <;> rcases List.mem_cons.1 hb with hb' | hb'
    · rw [ha', hb']
    · subst ha'; exact absurd e (h1 b hb')
    · subst hb'; exact absurd e.symm (h1 a ha')
    · exact ndB_inj h.2 a ha' b hb' e
theorem AVRel.sub {Φ : Frz} {β : Own} {bl bl' : List (Nat × Blk)} {v : Value} {x : AV} (h : AVRel Φ β bl' v x) (hs : ∀ k, x.ment k = true → lk bl k = lk bl' k) : AVRel Φ β bl v x := by
  cases x with
  | pv p => exact h
  | tup l => exact h
  | top => trivial
  | addr n i off =>
    obtain ⟨b, cap, B, h1, h2, h3, h4⟩ := h
    exact ⟨b, cap, B, h1, by rw [hs n (Nat.beq_refl n)]; exact h2, h3, h4⟩
  | slc n =>
    obtain ⟨B, h1, h2, h3⟩ := h
    exact ⟨B, by rw [hs n (Nat.beq_refl n)]; exact h1, h2, h3⟩
  | mp n =>
    obtain ⟨b, cap, B, h1, h2, h3, h4⟩ := h
    exact ⟨b, cap, B, h1, by rw [hs n (Nat.beq_refl n)]; exact h2, h3, h4⟩
  | mpn n bb =>
    obtain ⟨b, cap, B, h1, h2, h3, h4⟩ := h
    exact ⟨b, cap, B, h1, by rw [hs n (Nat.beq_refl n)]; exact h2, h3, h4⟩
  | itr d n =>
    obtain ⟨b, cap, B, M, c, h1, h2, h3, h4, h5, h6, h7, h8⟩ := h
    exact ⟨b, cap, B, M, c, h1, by rw [hs d (by simp [AV.ment])]; exact h2, h3, h4, by rw [hs n (by simp [AV.ment])]; exact h5, h6, h7, h8⟩
  | pin n b c f =>
    obtain ⟨B, h1, h2, h3, h4⟩ := h
    exact ⟨B, h1, by rw [hs n (Nat.beq_refl n)]; exact h2, h3, h4⟩
theorem AVRel.sup {Φ : Frz} {β : Own} {bl bl' : List (Nat × Blk)} {v : Value} {x : AV} (h : AVRel Φ β bl v x) (hs : ∀ k C, lk bl k = some C → lk bl' k = some C) : AVRel Φ β bl' v x := by
  cases x with
  | pv p => exact h
  | tup l => exact h
  | top => trivial
  | addr n i off =>
    obtain ⟨b, cap, B, h1, h2, h3, h4⟩ := h
    exact ⟨b, cap, B, h1, hs _ _ h2, h3, h4⟩
  | slc n =>
    obtain ⟨B, h1, h2, h3⟩ := h
    exact ⟨B, hs _ _ h1, h2, h3⟩
  | mp n =>
    obtain ⟨b, cap, B, h1, h2, h3, h4⟩ := h
    exact ⟨b, cap, B, h1, hs _ _ h2, h3, h4⟩
  | mpn n bb =>
    obtain ⟨b, cap, B, h1, h2, h3, h4⟩ := h
    exact ⟨b, cap, B, h1, hs _ _ h2, h3, h4⟩
  | itr d n =>
    obtain ⟨b, cap, B, M, c, h1, h2, h3, h4, h5, h6, h7, h8⟩ := h
    exact ⟨b, cap, B, M, c, h1, hs _ _ h2, h3, h4, hs _ _ h5, h6, h7, h8⟩
  | pin n b c f =>
    obtain ⟨B, h1, h2, h3, h4⟩ := h
    exact ⟨B, h1, hs _ _ h2, h3, h4⟩
theorem Sat.subB {G : Ghost} {Φ : Frz} {β : Own} {n : Nat} {env env' : Env} {bl bl' : List (Nat × Blk)} {a : Act} {w : World} (h : Sat G Φ β (St.mk n env' bl') a w) (hb : ∀ k C, lk bl k = some C → lk bl' k = some C)
    (he : ∀ t q v, lk env t = some (q, v) → lk env' t = some (q, v) ∧ ∀ k, v.ment k = true → lk bl k = lk bl' k) : Sat G Φ β (St.mk n env bl) a w :=
  ⟨h.kept, h.fits, h.old, h.siz, h.dfr, fun t q v hl => by
    obtain ⟨h1, h2⟩ := he t q v hl
    exact ⟨fun hq => ((h.env t q v h1).1 hq).sub h2, (h.env t q v h1).2⟩,
   fun k B b cap hl => h.blk k B b cap (hb _ _ hl), fun k B hl => h.vir k B (hb _ _ hl), fun k k' B B' b c c' h1 h2 => h.inj k k' B B' b c c' (hb _ _ h1) (hb _ _ h2)⟩
section
variable {P : Program} {G : Ghost} {ops : Array Oper} {n : Nat} {bl : List (Nat × Blk)} {effs : Effs}
def noMent (d : Nat) : Env → Bool
  | [] => true
  | (_, (_, v)) :: r => !v.ment d && noMent d r
theorem noMent_eq (d : Nat) : ∀ E : Env, noMent d E = E.all fun y => !y.2.2.ment d
  | [] => rfl
  | (_, (_, v)) :: r => by rw [noMent, noMent_eq d r]; rfl
def offB (effs : Effs) (i : Nat) : Bool := effs.all fun x => !Nat.beq x.1 i
theorem off_of {i : Nat} (h : offB effs i = true) : ∀ x ∈ effs, x.1 ≠ i := fun x hx e => by
  have := List.all_eq_true.1 h x hx
  rw [e] at this; simp at this
end
end Lf
end
