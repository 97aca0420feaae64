/-
  The functions of package vote, of its reference and of the law's small examples: what each returns, as functions on lists.
-/
import Derived.Test.YtanhmeedgophcaaTypes
set_option linter.unusedVariables false
set_option linter.unusedSimpArgs false
set_option maxHeartbeats 8000000
namespace Go.Proofs.Ytanhmeedgophcaa
open Lf Go
attribute [local irreducible] PureOp EffOp Ev RG W Then InBlock Lf.Fin nth App InitE Pick SubE SubF SubG EvL EvD EvP EvR ResL Lex

structure Vote where
  seat : Int
  day : Int
  yes : Bool
  deriving Inhabited
def encI (n : Int) : List Cell := [.int .i64 n]
def encB (b : Bool) : List Cell := [.bool b]
def encV (v : Vote) : List Cell := [.int .i64 v.seat, .int .i64 v.day, .bool v.yes]
abbrev slI (l : List Int) : PV := .one (.sl (l.map encI))
abbrev slB (l : List Bool) : PV := .one (.sl (l.map encB))
abbrev slV (l : List Vote) : PV := .one (.sl (l.map encV))

def fineF (m y a : Int) : Bool := decide (m ≥ 1) && decide (m ≤ 1000) && decide (a ≥ 1) && decide (a ≤ 1000000000) && decide (y ≥ 0) && decide (y ≤ a)
theorem fine_ok (m y a : Int) : ACalls Try.prog 21 [cI m, cI y, cI a] (.pv (cB (fineF m y a))) := by
  refine ACalls.of_W (qs := [_]) [6] 30 Try.func21 (by kernel_rfl) rfl rfl rfl fun G => ?_
  apply W.init (by repeat (first | exact InitE.nil | apply InitE.c0 | apply InitE.c1 | apply InitE.c2 | apply InitE.c3 | apply InitE.c4 | apply InitE.c5 | apply InitE.c6 | apply InitE.c7 | apply InitE.c8 | apply InitE.c9 | apply InitE.c10 | apply InitE.c11))
  repeat' (first
    | apply RG.nil
    | apply Then.n
    | apply Then.r
    | apply Then.x
    | apply InBlock.n
    | apply InBlock.r
    | apply InBlock.hit
    | (apply InBlock.miss; exact rfl)
    | apply W.seq
    | apply W.region
    | apply W.block
    | apply W.skip
    | apply W.ret
    | apply W.exit
    | (apply U_; (first
    | (apply Q_move; (refine Ev.of rfl ?_; first | exact fun _ => trivial | exact id | exact And.right | exact And.left | exact fun h => h.1.2 | exact fun h => h.1.1))
    | (apply Q_assign; (refine Ev.of rfl ?_; first | exact fun _ => trivial | exact id | exact And.right | exact And.left | exact fun h => h.1.2 | exact fun h => h.1.1))
    | (apply Q_fieldp TYok; (refine Ev.of rfl ?_; first | exact fun _ => trivial | exact id | exact And.right | exact And.left | exact fun h => h.1.2 | exact fun h => h.1.1); exact rfl; exact rfl; exact rfl; exact rfl; exact rfl)
    | (apply Q_field TYok; (refine Ev.of rfl ?_; first | exact fun _ => trivial | exact id | exact And.right | exact And.left | exact fun h => h.1.2 | exact fun h => h.1.1); exact rfl; exact rfl; exact rfl; exact rfl; exact rfl)
    | (apply Q_loadp TYok; exact rfl; exact rfl; (refine Ev.of rfl ?_; first | exact fun _ => trivial | exact id | exact And.right | exact And.left | exact fun h => h.1.2 | exact fun h => h.1.1); exact rfl)
    | (apply Q_load TYok; exact rfl; exact rfl; (refine Ev.of rfl ?_; first | exact fun _ => trivial | exact id | exact And.right | exact And.left | exact fun h => h.1.2 | exact fun h => h.1.1); exact rfl; exact rfl; exact rfl)
    | (apply Q_loadm TYok; exact rfl; exact rfl; (refine Ev.of rfl ?_; first | exact fun _ => trivial | exact id | exact And.right | exact And.left | exact fun h => h.1.2 | exact fun h => h.1.1); exact rfl; infer_instance; (intro hg; first | omega | (simp; omega) | (simp at hg; simp; omega)); exact rfl)
    | (apply Q_loadpa TYok; exact rfl; exact rfl; (refine Ev.of rfl ?_; first | exact fun _ => trivial | exact id | exact And.right | exact And.left | exact fun h => h.1.2 | exact fun h => h.1.1); exact rfl)
    | (apply Q_loada TYok; exact rfl; exact rfl; (refine Ev.of rfl ?_; first | exact fun _ => trivial | exact id | exact And.right | exact And.left | exact fun h => h.1.2 | exact fun h => h.1.1); exact rfl; exact rfl; exact rfl)
    | (apply Q_loadma TYok; exact rfl; exact rfl; (refine Ev.of rfl ?_; first | exact fun _ => trivial | exact id | exact And.right | exact And.left | exact fun h => h.1.2 | exact fun h => h.1.1); exact rfl; infer_instance; (intro hg; first | omega | (simp; omega) | (simp at hg; simp; omega)); exact rfl)
    | (apply Q_add; (refine Ev.of rfl ?_; first | exact fun _ => trivial | exact id | exact And.right | exact And.left | exact fun h => h.1.2 | exact fun h => h.1.1); (refine Ev.of rfl ?_; first | exact fun _ => trivial | exact id | exact And.right | exact And.left | exact fun h => h.1.2 | exact fun h => h.1.1); (first | omega | (constructor <;> omega)))
    | (apply Q_sub; (refine Ev.of rfl ?_; first | exact fun _ => trivial | exact id | exact And.right | exact And.left | exact fun h => h.1.2 | exact fun h => h.1.1); (refine Ev.of rfl ?_; first | exact fun _ => trivial | exact id | exact And.right | exact And.left | exact fun h => h.1.2 | exact fun h => h.1.1); (first | omega | (constructor <;> omega)))
    | (apply Q_mul; (refine Ev.of rfl ?_; first | exact fun _ => trivial | exact id | exact And.right | exact And.left | exact fun h => h.1.2 | exact fun h => h.1.1); (refine Ev.of rfl ?_; first | exact fun _ => trivial | exact id | exact And.right | exact And.left | exact fun h => h.1.2 | exact fun h => h.1.1); (first | omega | (constructor <;> omega)))
    | (apply Q_quoN; (refine Ev.of rfl ?_; first | exact fun _ => trivial | exact id | exact And.right | exact And.left | exact fun h => h.1.2 | exact fun h => h.1.1); (refine Ev.of rfl ?_; first | exact fun _ => trivial | exact id | exact And.right | exact And.left | exact fun h => h.1.2 | exact fun h => h.1.1); (first | omega | (constructor <;> omega)))
    | (apply Q_remN; (refine Ev.of rfl ?_; first | exact fun _ => trivial | exact id | exact And.right | exact And.left | exact fun h => h.1.2 | exact fun h => h.1.1); (refine Ev.of rfl ?_; first | exact fun _ => trivial | exact id | exact And.right | exact And.left | exact fun h => h.1.2 | exact fun h => h.1.1); (first | omega | (constructor <;> omega)))
    | (apply Q_bin; (refine Ev.of rfl ?_; first | exact fun _ => trivial | exact id | exact And.right | exact And.left | exact fun h => h.1.2 | exact fun h => h.1.1); (refine Ev.of rfl ?_; first | exact fun _ => trivial | exact id | exact And.right | exact And.left | exact fun h => h.1.2 | exact fun h => h.1.1); exact rfl)
    | (apply Q_or; (refine Ev.of rfl ?_; first | exact fun _ => trivial | exact id | exact And.right | exact And.left | exact fun h => h.1.2 | exact fun h => h.1.1); (refine Ev.of rfl ?_; first | exact fun _ => trivial | exact id | exact And.right | exact And.left | exact fun h => h.1.2 | exact fun h => h.1.1))
    | (apply Q_and; (refine Ev.of rfl ?_; first | exact fun _ => trivial | exact id | exact And.right | exact And.left | exact fun h => h.1.2 | exact fun h => h.1.1); (refine Ev.of rfl ?_; first | exact fun _ => trivial | exact id | exact And.right | exact And.left | exact fun h => h.1.2 | exact fun h => h.1.1))
    | (apply Q_not; (refine Ev.of rfl ?_; first | exact fun _ => trivial | exact id | exact And.right | exact And.left | exact fun h => h.1.2 | exact fun h => h.1.1))
    | (apply Q_max; (refine Ev.of rfl ?_; first | exact fun _ => trivial | exact id | exact And.right | exact And.left | exact fun h => h.1.2 | exact fun h => h.1.1); (refine Ev.of rfl ?_; first | exact fun _ => trivial | exact id | exact And.right | exact And.left | exact fun h => h.1.2 | exact fun h => h.1.1))
    | (apply Q_min; (refine Ev.of rfl ?_; first | exact fun _ => trivial | exact id | exact And.right | exact And.left | exact fun h => h.1.2 | exact fun h => h.1.1); (refine Ev.of rfl ?_; first | exact fun _ => trivial | exact id | exact And.right | exact And.left | exact fun h => h.1.2 | exact fun h => h.1.1))
    | (apply Q_lenm TYok; (refine Ev.of rfl ?_; first | exact fun _ => trivial | exact id | exact And.right | exact And.left | exact fun h => h.1.2 | exact fun h => h.1.1); exact rfl; exact rfl)
    | (apply Q_lend TYok; (refine Ev.of rfl ?_; first | exact fun _ => trivial | exact id | exact And.right | exact And.left | exact fun h => h.1.2 | exact fun h => h.1.1); exact rfl; exact rfl)
    | (apply Q_lenom TYok; (refine Ev.of rfl ?_; first | exact fun _ => trivial | exact id | exact And.right | exact And.left | exact fun h => h.1.2 | exact fun h => h.1.1); exact rfl; exact rfl; exact rfl)
    | (apply Q_len TYok; (refine Ev.of rfl ?_; first | exact fun _ => trivial | exact id | exact And.right | exact And.left | exact fun h => h.1.2 | exact fun h => h.1.1); exact rfl; exact rfl; exact rfl)
    | (apply Q_len0 TYok; (refine Ev.of rfl ?_; first | exact fun _ => trivial | exact id | exact And.right | exact And.left | exact fun h => h.1.2 | exact fun h => h.1.1); exact rfl; exact rfl)
    | (apply Q_lens TYok; (refine Ev.of rfl ?_; first | exact fun _ => trivial | exact id | exact And.right | exact And.left | exact fun h => h.1.2 | exact fun h => h.1.1); exact rfl; exact rfl)
    | (apply Q_indexd TYok; (refine Ev.of rfl ?_; first | exact fun _ => trivial | exact id | exact And.right | exact And.left | exact fun h => h.1.2 | exact fun h => h.1.1); (refine Ev.of rfl ?_; first | exact fun _ => trivial | exact id | exact And.right | exact And.left | exact fun h => h.1.2 | exact fun h => h.1.1); exact rfl; exact rfl; exact rfl; (intro hg; first | exact getRowN (by first | omega | (simp at hg; omega)) | exact getRowI (by first | omega | (simp at hg; omega))); exact rfl)
    | (apply Q_index TYok; (refine Ev.of rfl ?_; first | exact fun _ => trivial | exact id | exact And.right | exact And.left | exact fun h => h.1.2 | exact fun h => h.1.1); (refine Ev.of rfl ?_; first | exact fun _ => trivial | exact id | exact And.right | exact And.left | exact fun h => h.1.2 | exact fun h => h.1.1); exact rfl; exact rfl; exact rfl; exact rfl; exact rfl; (intro hg; first | (simp; omega) | (simp at hg; simp; omega)))
    | (apply Q_binS; (refine Ev.of rfl ?_; first | exact fun _ => trivial | exact id | exact And.right | exact And.left | exact fun h => h.1.2 | exact fun h => h.1.1); (refine Ev.of rfl ?_; first | exact fun _ => trivial | exact id | exact And.right | exact And.left | exact fun h => h.1.2 | exact fun h => h.1.1); exact rfl)
    | (apply Q_neg; (refine Ev.of rfl ?_; first | exact fun _ => trivial | exact id | exact And.right | exact And.left | exact fun h => h.1.2 | exact fun h => h.1.1); (first | omega | (constructor <;> omega)))
    | (apply Q_extract; (refine Ev.of rfl ?_; first | exact fun _ => trivial | exact id | exact And.right | exact And.left | exact fun h => h.1.2 | exact fun h => h.1.1); exact rfl)
    | (apply Q_convI TYok; exact rfl; exact rfl; exact rfl; exact rfl; (refine Ev.of rfl ?_; first | exact fun _ => trivial | exact id | exact And.right | exact And.left | exact fun h => h.1.2 | exact fun h => h.1.1); (first | omega | (constructor <;> omega)))
    | (apply Q_conv TYok; exact rfl; exact rfl; exact rfl; exact rfl; (refine Ev.of rfl ?_; first | exact fun _ => trivial | exact id | exact And.right | exact And.left | exact fun h => h.1.2 | exact fun h => h.1.1))
    | (apply Q_build TYok; (repeat (first | exact EvP.nil | apply EvP.cons (by refine Ev.of rfl ?_; first | exact fun _ => trivial | exact id | exact And.right | exact And.left | exact fun h => h.1.2 | exact fun h => h.1.1))); exact rfl; exact rfl; exact rfl; exact rfl)); exact rfl)
    | (apply Ug_; exact rfl; exact rfl; (first
    | (apply Q_move; (refine Ev.of rfl ?_; first | exact fun _ => trivial | exact id | exact And.right | exact And.left | exact fun h => h.1.2 | exact fun h => h.1.1))
    | (apply Q_assign; (refine Ev.of rfl ?_; first | exact fun _ => trivial | exact id | exact And.right | exact And.left | exact fun h => h.1.2 | exact fun h => h.1.1))
    | (apply Q_fieldp TYok; (refine Ev.of rfl ?_; first | exact fun _ => trivial | exact id | exact And.right | exact And.left | exact fun h => h.1.2 | exact fun h => h.1.1); exact rfl; exact rfl; exact rfl; exact rfl; exact rfl)
    | (apply Q_field TYok; (refine Ev.of rfl ?_; first | exact fun _ => trivial | exact id | exact And.right | exact And.left | exact fun h => h.1.2 | exact fun h => h.1.1); exact rfl; exact rfl; exact rfl; exact rfl; exact rfl)
    | (apply Q_loadp TYok; exact rfl; exact rfl; (refine Ev.of rfl ?_; first | exact fun _ => trivial | exact id | exact And.right | exact And.left | exact fun h => h.1.2 | exact fun h => h.1.1); exact rfl)
    | (apply Q_load TYok; exact rfl; exact rfl; (refine Ev.of rfl ?_; first | exact fun _ => trivial | exact id | exact And.right | exact And.left | exact fun h => h.1.2 | exact fun h => h.1.1); exact rfl; exact rfl; exact rfl)
    | (apply Q_loadm TYok; exact rfl; exact rfl; (refine Ev.of rfl ?_; first | exact fun _ => trivial | exact id | exact And.right | exact And.left | exact fun h => h.1.2 | exact fun h => h.1.1); exact rfl; infer_instance; (intro hg; first | omega | (simp; omega) | (simp at hg; simp; omega)); exact rfl)
    | (apply Q_loadpa TYok; exact rfl; exact rfl; (refine Ev.of rfl ?_; first | exact fun _ => trivial | exact id | exact And.right | exact And.left | exact fun h => h.1.2 | exact fun h => h.1.1); exact rfl)
    | (apply Q_loada TYok; exact rfl; exact rfl; (refine Ev.of rfl ?_; first | exact fun _ => trivial | exact id | exact And.right | exact And.left | exact fun h => h.1.2 | exact fun h => h.1.1); exact rfl; exact rfl; exact rfl)
    | (apply Q_loadma TYok; exact rfl; exact rfl; (refine Ev.of rfl ?_; first | exact fun _ => trivial | exact id | exact And.right | exact And.left | exact fun h => h.1.2 | exact fun h => h.1.1); exact rfl; infer_instance; (intro hg; first | omega | (simp; omega) | (simp at hg; simp; omega)); exact rfl)
    | (apply Q_add; (refine Ev.of rfl ?_; first | exact fun _ => trivial | exact id | exact And.right | exact And.left | exact fun h => h.1.2 | exact fun h => h.1.1); (refine Ev.of rfl ?_; first | exact fun _ => trivial | exact id | exact And.right | exact And.left | exact fun h => h.1.2 | exact fun h => h.1.1); (first | omega | (constructor <;> omega)))
    | (apply Q_sub; (refine Ev.of rfl ?_; first | exact fun _ => trivial | exact id | exact And.right | exact And.left | exact fun h => h.1.2 | exact fun h => h.1.1); (refine Ev.of rfl ?_; first | exact fun _ => trivial | exact id | exact And.right | exact And.left | exact fun h => h.1.2 | exact fun h => h.1.1); (first | omega | (constructor <;> omega)))
    | (apply Q_mul; (refine Ev.of rfl ?_; first | exact fun _ => trivial | exact id | exact And.right | exact And.left | exact fun h => h.1.2 | exact fun h => h.1.1); (refine Ev.of rfl ?_; first | exact fun _ => trivial | exact id | exact And.right | exact And.left | exact fun h => h.1.2 | exact fun h => h.1.1); (first | omega | (constructor <;> omega)))
    | (apply Q_quoN; (refine Ev.of rfl ?_; first | exact fun _ => trivial | exact id | exact And.right | exact And.left | exact fun h => h.1.2 | exact fun h => h.1.1); (refine Ev.of rfl ?_; first | exact fun _ => trivial | exact id | exact And.right | exact And.left | exact fun h => h.1.2 | exact fun h => h.1.1); (first | omega | (constructor <;> omega)))
    | (apply Q_remN; (refine Ev.of rfl ?_; first | exact fun _ => trivial | exact id | exact And.right | exact And.left | exact fun h => h.1.2 | exact fun h => h.1.1); (refine Ev.of rfl ?_; first | exact fun _ => trivial | exact id | exact And.right | exact And.left | exact fun h => h.1.2 | exact fun h => h.1.1); (first | omega | (constructor <;> omega)))
    | (apply Q_bin; (refine Ev.of rfl ?_; first | exact fun _ => trivial | exact id | exact And.right | exact And.left | exact fun h => h.1.2 | exact fun h => h.1.1); (refine Ev.of rfl ?_; first | exact fun _ => trivial | exact id | exact And.right | exact And.left | exact fun h => h.1.2 | exact fun h => h.1.1); exact rfl)
    | (apply Q_or; (refine Ev.of rfl ?_; first | exact fun _ => trivial | exact id | exact And.right | exact And.left | exact fun h => h.1.2 | exact fun h => h.1.1); (refine Ev.of rfl ?_; first | exact fun _ => trivial | exact id | exact And.right | exact And.left | exact fun h => h.1.2 | exact fun h => h.1.1))
    | (apply Q_and; (refine Ev.of rfl ?_; first | exact fun _ => trivial | exact id | exact And.right | exact And.left | exact fun h => h.1.2 | exact fun h => h.1.1); (refine Ev.of rfl ?_; first | exact fun _ => trivial | exact id | exact And.right | exact And.left | exact fun h => h.1.2 | exact fun h => h.1.1))
    | (apply Q_not; (refine Ev.of rfl ?_; first | exact fun _ => trivial | exact id | exact And.right | exact And.left | exact fun h => h.1.2 | exact fun h => h.1.1))
    | (apply Q_max; (refine Ev.of rfl ?_; first | exact fun _ => trivial | exact id | exact And.right | exact And.left | exact fun h => h.1.2 | exact fun h => h.1.1); (refine Ev.of rfl ?_; first | exact fun _ => trivial | exact id | exact And.right | exact And.left | exact fun h => h.1.2 | exact fun h => h.1.1))
    | (apply Q_min; (refine Ev.of rfl ?_; first | exact fun _ => trivial | exact id | exact And.right | exact And.left | exact fun h => h.1.2 | exact fun h => h.1.1); (refine Ev.of rfl ?_; first | exact fun _ => trivial | exact id | exact And.right | exact And.left | exact fun h => h.1.2 | exact fun h => h.1.1))
    | (apply Q_lenm TYok; (refine Ev.of rfl ?_; first | exact fun _ => trivial | exact id | exact And.right | exact And.left | exact fun h => h.1.2 | exact fun h => h.1.1); exact rfl; exact rfl)
    | (apply Q_lend TYok; (refine Ev.of rfl ?_; first | exact fun _ => trivial | exact id | exact And.right | exact And.left | exact fun h => h.1.2 | exact fun h => h.1.1); exact rfl; exact rfl)
    | (apply Q_lenom TYok; (refine Ev.of rfl ?_; first | exact fun _ => trivial | exact id | exact And.right | exact And.left | exact fun h => h.1.2 | exact fun h => h.1.1); exact rfl; exact rfl; exact rfl)
    | (apply Q_len TYok; (refine Ev.of rfl ?_; first | exact fun _ => trivial | exact id | exact And.right | exact And.left | exact fun h => h.1.2 | exact fun h => h.1.1); exact rfl; exact rfl; exact rfl)
    | (apply Q_len0 TYok; (refine Ev.of rfl ?_; first | exact fun _ => trivial | exact id | exact And.right | exact And.left | exact fun h => h.1.2 | exact fun h => h.1.1); exact rfl; exact rfl)
    | (apply Q_lens TYok; (refine Ev.of rfl ?_; first | exact fun _ => trivial | exact id | exact And.right | exact And.left | exact fun h => h.1.2 | exact fun h => h.1.1); exact rfl; exact rfl)
    | (apply Q_indexd TYok; (refine Ev.of rfl ?_; first | exact fun _ => trivial | exact id | exact And.right | exact And.left | exact fun h => h.1.2 | exact fun h => h.1.1); (refine Ev.of rfl ?_; first | exact fun _ => trivial | exact id | exact And.right | exact And.left | exact fun h => h.1.2 | exact fun h => h.1.1); exact rfl; exact rfl; exact rfl; (intro hg; first | exact getRowN (by first | omega | (simp at hg; omega)) | exact getRowI (by first | omega | (simp at hg; omega))); exact rfl)
    | (apply Q_index TYok; (refine Ev.of rfl ?_; first | exact fun _ => trivial | exact id | exact And.right | exact And.left | exact fun h => h.1.2 | exact fun h => h.1.1); (refine Ev.of rfl ?_; first | exact fun _ => trivial | exact id | exact And.right | exact And.left | exact fun h => h.1.2 | exact fun h => h.1.1); exact rfl; exact rfl; exact rfl; exact rfl; exact rfl; (intro hg; first | (simp; omega) | (simp at hg; simp; omega)))
    | (apply Q_binS; (refine Ev.of rfl ?_; first | exact fun _ => trivial | exact id | exact And.right | exact And.left | exact fun h => h.1.2 | exact fun h => h.1.1); (refine Ev.of rfl ?_; first | exact fun _ => trivial | exact id | exact And.right | exact And.left | exact fun h => h.1.2 | exact fun h => h.1.1); exact rfl)
    | (apply Q_neg; (refine Ev.of rfl ?_; first | exact fun _ => trivial | exact id | exact And.right | exact And.left | exact fun h => h.1.2 | exact fun h => h.1.1); (first | omega | (constructor <;> omega)))
    | (apply Q_extract; (refine Ev.of rfl ?_; first | exact fun _ => trivial | exact id | exact And.right | exact And.left | exact fun h => h.1.2 | exact fun h => h.1.1); exact rfl)
    | (apply Q_convI TYok; exact rfl; exact rfl; exact rfl; exact rfl; (refine Ev.of rfl ?_; first | exact fun _ => trivial | exact id | exact And.right | exact And.left | exact fun h => h.1.2 | exact fun h => h.1.1); (first | omega | (constructor <;> omega)))
    | (apply Q_conv TYok; exact rfl; exact rfl; exact rfl; exact rfl; (refine Ev.of rfl ?_; first | exact fun _ => trivial | exact id | exact And.right | exact And.left | exact fun h => h.1.2 | exact fun h => h.1.1))
    | (apply Q_build TYok; (repeat (first | exact EvP.nil | apply EvP.cons (by refine Ev.of rfl ?_; first | exact fun _ => trivial | exact id | exact And.right | exact And.left | exact fun h => h.1.2 | exact fun h => h.1.1))); exact rfl; exact rfl; exact rfl; exact rfl)); exact rfl)
    | (apply S_alloc TYok; exact rfl; exact rfl; exact rfl; exact rfl)
    | (apply S_store TYok; (refine Ev.of rfl ?_; first | exact fun _ => trivial | exact id | exact And.right | exact And.left | exact fun h => h.1.2 | exact fun h => h.1.1); (refine Ev.of rfl ?_; first | exact fun _ => trivial | exact id | exact And.right | exact And.left | exact fun h => h.1.2 | exact fun h => h.1.1); exact rfl; exact rfl; exact rfl; exact rfl; exact rfl)
    | (apply S_storem TYok; (refine Ev.of rfl ?_; first | exact fun _ => trivial | exact id | exact And.right | exact And.left | exact fun h => h.1.2 | exact fun h => h.1.1); (refine Ev.of rfl ?_; first | exact fun _ => trivial | exact id | exact And.right | exact And.left | exact fun h => h.1.2 | exact fun h => h.1.1); exact rfl; exact rfl; (first | omega | (simp; omega)); exact rfl; (intro z; exact rfl))
    | (apply S_lit TYok; (repeat (first | exact EvR.nil | apply EvR.cons (by refine Ev.of rfl ?_; first | exact fun _ => trivial | exact id | exact And.right | exact And.left | exact fun h => h.1.2 | exact fun h => h.1.1))); exact rfl; exact rfl; exact rfl; exact rfl; exact rfl; exact rfl; exact rfl; exact rfl; exact rfl)
    | (apply S_make TYok; (refine Ev.of rfl ?_; first | exact fun _ => trivial | exact id | exact And.right | exact And.left | exact fun h => h.1.2 | exact fun h => h.1.1); (refine Ev.of rfl ?_; first | exact fun _ => trivial | exact id | exact And.right | exact And.left | exact fun h => h.1.2 | exact fun h => h.1.1); exact rfl; exact rfl; exact rfl; exact rfl; (refine ⟨by omega, by omega, by simp; omega, by omega⟩); exact rfl; exact rfl)
    | (apply S_append TYok; (refine Ev.of rfl ?_; first | exact fun _ => trivial | exact id | exact And.right | exact And.left | exact fun h => h.1.2 | exact fun h => h.1.1); (refine Ev.of rfl ?_; first | exact fun _ => trivial | exact id | exact And.right | exact And.left | exact fun h => h.1.2 | exact fun h => h.1.1); exact rfl; exact rfl; exact rfl; exact rfl; exact rfl; exact rfl; exact rfl; exact rfl; exact rfl; exact rfl; (constructor <;> simp <;> omega); exact rfl)
    | (apply S_append0 TYok; (refine Ev.of rfl ?_; first | exact fun _ => trivial | exact id | exact And.right | exact And.left | exact fun h => h.1.2 | exact fun h => h.1.1); (refine Ev.of rfl ?_; first | exact fun _ => trivial | exact id | exact And.right | exact And.left | exact fun h => h.1.2 | exact fun h => h.1.1); exact rfl; exact rfl; exact rfl; exact rfl; exact rfl; exact rfl; exact rfl; (constructor <;> simp <;> omega); exact rfl; exact rfl)
    | (apply S_box; (refine Ev.of rfl ?_; first | exact fun _ => trivial | exact id | exact And.right | exact And.left | exact fun h => h.1.2 | exact fun h => h.1.1); exact rfl; exact rfl)
    | (refine W.cond (by refine Ev.of rfl ?_; first | exact fun _ => trivial | exact id | exact And.right | exact And.left | exact fun h => h.1.2 | exact fun h => h.1.1) (fun hb => ?_) (fun hb => ?_) <;> (try simp at hb) <;> (try (exfalso; omega))))
  exact Fin.ret (by repeat (first | exact ResL.nil | refine ResL.cons rfl rfl (by first | exact PSub.rfl' | exact PSub.nil' | (refine PSub.of_eq ?_; simp; done)) ?_))

def usOk (us : List Int) : Bool := us.all fun n => decide (0 ≤ n) && decide (n ≤ 1000000000)
def vsOk (L : Int) : Int → List Vote → Bool
  | _, [] => true
  | day, v :: r => decide (0 ≤ v.seat) && decide (v.seat < L) && decide (day ≤ v.day) && decide (v.day ≤ 200000) && vsOk L v.day r
def rightF (us : List Int) (vs : List Vote) : Bool := usOk us && vsOk us.length 0 vs && decide ((us.length : Int) ≤ 20000) && decide (us.sum ≤ 1000000000) && decide ((vs.length : Int) ≤ 2000)

theorem usOk_drop {us : List Int} {k : Nat} (h : k < us.length) : usOk (us.drop k) = (decide (0 ≤ nth us k) && decide (nth us k ≤ 1000000000) && usOk (us.drop (k + 1))) := by
  rw [drop_nth h]; simp [usOk]
theorem vsOk_drop {L d : Int} {vs : List Vote} {k : Nat} (h : k < vs.length) : vsOk L d (vs.drop k) = (decide (0 ≤ (nth vs k).seat) && decide ((nth vs k).seat < L) && decide (d ≤ (nth vs k).day) && decide ((nth vs k).day ≤ 200000) && vsOk L (nth vs k).day (vs.drop (k + 1))) := by
  rw [drop_nth h]; rfl

theorem right_ok (us : List Int) (vs : List Vote) (hu : us.length ≤ 1000000) (hv : vs.length ≤ 1000000) : ACalls Try.prog 19 [slI us, slV vs] (.pv (cB (rightF us vs))) := by
  refine ACalls.of_W (qs := [cB (rightF us vs)]) [4] 69 Try.func19 (by kernel_rfl) rfl rfl rfl fun G => ?_
  apply W.init (by repeat (first | exact InitE.nil | apply InitE.c0 | apply InitE.c1 | apply InitE.c2 | apply InitE.c3 | apply InitE.c4 | apply InitE.c5 | apply InitE.c6 | apply InitE.c7 | apply InitE.c8 | apply InitE.c9 | apply InitE.c10 | apply InitE.c11))
  repeat' (first
    | apply RG.nil
    | apply Then.n
    | apply Then.r
    | apply Then.x
    | apply InBlock.n
    | apply InBlock.r
    | apply InBlock.hit
    | (apply InBlock.miss; exact rfl)
    | apply W.seq
    | apply W.region
    | apply W.block
    | apply W.skip
    | apply W.ret
    | apply W.exit
    | (apply U_; (first
    | (apply Q_move; (refine Ev.of rfl ?_; first | exact fun _ => trivial | exact id | exact And.right | exact And.left | exact fun h => h.1.2 | exact fun h => h.1.1))
    | (apply Q_assign; (refine Ev.of rfl ?_; first | exact fun _ => trivial | exact id | exact And.right | exact And.left | exact fun h => h.1.2 | exact fun h => h.1.1))
    | (apply Q_fieldp TYok; (refine Ev.of rfl ?_; first | exact fun _ => trivial | exact id | exact And.right | exact And.left | exact fun h => h.1.2 | exact fun h => h.1.1); exact rfl; exact rfl; exact rfl; exact rfl; exact rfl)
    | (apply Q_field TYok; (refine Ev.of rfl ?_; first | exact fun _ => trivial | exact id | exact And.right | exact And.left | exact fun h => h.1.2 | exact fun h => h.1.1); exact rfl; exact rfl; exact rfl; exact rfl; exact rfl)
    | (apply Q_loadp TYok; exact rfl; exact rfl; (refine Ev.of rfl ?_; first | exact fun _ => trivial | exact id | exact And.right | exact And.left | exact fun h => h.1.2 | exact fun h => h.1.1); exact rfl)
    | (apply Q_load TYok; exact rfl; exact rfl; (refine Ev.of rfl ?_; first | exact fun _ => trivial | exact id | exact And.right | exact And.left | exact fun h => h.1.2 | exact fun h => h.1.1); exact rfl; exact rfl; exact rfl)
    | (apply Q_loadm TYok; exact rfl; exact rfl; (refine Ev.of rfl ?_; first | exact fun _ => trivial | exact id | exact And.right | exact And.left | exact fun h => h.1.2 | exact fun h => h.1.1); exact rfl; infer_instance; (intro hg; first | omega | (simp; omega) | (simp at hg; simp; omega)); exact rfl)
    | (apply Q_loadpa TYok; exact rfl; exact rfl; (refine Ev.of rfl ?_; first | exact fun _ => trivial | exact id | exact And.right | exact And.left | exact fun h => h.1.2 | exact fun h => h.1.1); exact rfl)
    | (apply Q_loada TYok; exact rfl; exact rfl; (refine Ev.of rfl ?_; first | exact fun _ => trivial | exact id | exact And.right | exact And.left | exact fun h => h.1.2 | exact fun h => h.1.1); exact rfl; exact rfl; exact rfl)
    | (apply Q_loadma TYok; exact rfl; exact rfl; (refine Ev.of rfl ?_; first | exact fun _ => trivial | exact id | exact And.right | exact And.left | exact fun h => h.1.2 | exact fun h => h.1.1); exact rfl; infer_instance; (intro hg; first | omega | (simp; omega) | (simp at hg; simp; omega)); exact rfl)
    | (apply Q_add; (refine Ev.of rfl ?_; first | exact fun _ => trivial | exact id | exact And.right | exact And.left | exact fun h => h.1.2 | exact fun h => h.1.1); (refine Ev.of rfl ?_; first | exact fun _ => trivial | exact id | exact And.right | exact And.left | exact fun h => h.1.2 | exact fun h => h.1.1); (first | omega | (constructor <;> omega)))
    | (apply Q_sub; (refine Ev.of rfl ?_; first | exact fun _ => trivial | exact id | exact And.right | exact And.left | exact fun h => h.1.2 | exact fun h => h.1.1); (refine Ev.of rfl ?_; first | exact fun _ => trivial | exact id | exact And.right | exact And.left | exact fun h => h.1.2 | exact fun h => h.1.1); (first | omega | (constructor <;> omega)))
    | (apply Q_mul; (refine Ev.of rfl ?_; first | exact fun _ => trivial | exact id | exact And.right | exact And.left | exact fun h => h.1.2 | exact fun h => h.1.1); (refine Ev.of rfl ?_; first | exact fun _ => trivial | exact id | exact And.right | exact And.left | exact fun h => h.1.2 | exact fun h => h.1.1); (first | omega | (constructor <;> omega)))
    | (apply Q_quoN; (refine Ev.of rfl ?_; first | exact fun _ => trivial | exact id | exact And.right | exact And.left | exact fun h => h.1.2 | exact fun h => h.1.1); (refine Ev.of rfl ?_; first | exact fun _ => trivial | exact id | exact And.right | exact And.left | exact fun h => h.1.2 | exact fun h => h.1.1); (first | omega | (constructor <;> omega)))
    | (apply Q_remN; (refine Ev.of rfl ?_; first | exact fun _ => trivial | exact id | exact And.right | exact And.left | exact fun h => h.1.2 | exact fun h => h.1.1); (refine Ev.of rfl ?_; first | exact fun _ => trivial | exact id | exact And.right | exact And.left | exact fun h => h.1.2 | exact fun h => h.1.1); (first | omega | (constructor <;> omega)))
    | (apply Q_bin; (refine Ev.of rfl ?_; first | exact fun _ => trivial | exact id | exact And.right | exact And.left | exact fun h => h.1.2 | exact fun h => h.1.1); (refine Ev.of rfl ?_; first | exact fun _ => trivial | exact id | exact And.right | exact And.left | exact fun h => h.1.2 | exact fun h => h.1.1); exact rfl)
    | (apply Q_or; (refine Ev.of rfl ?_; first | exact fun _ => trivial | exact id | exact And.right | exact And.left | exact fun h => h.1.2 | exact fun h => h.1.1); (refine Ev.of rfl ?_; first | exact fun _ => trivial | exact id | exact And.right | exact And.left | exact fun h => h.1.2 | exact fun h => h.1.1))
    | (apply Q_and; (refine Ev.of rfl ?_; first | exact fun _ => trivial | exact id | exact And.right | exact And.left | exact fun h => h.1.2 | exact fun h => h.1.1); (refine Ev.of rfl ?_; first | exact fun _ => trivial | exact id | exact And.right | exact And.left | exact fun h => h.1.2 | exact fun h => h.1.1))
    | (apply Q_not; (refine Ev.of rfl ?_; first | exact fun _ => trivial | exact id | exact And.right | exact And.left | exact fun h => h.1.2 | exact fun h => h.1.1))
    | (apply Q_max; (refine Ev.of rfl ?_; first | exact fun _ => trivial | exact id | exact And.right | exact And.left | exact fun h => h.1.2 | exact fun h => h.1.1); (refine Ev.of rfl ?_; first | exact fun _ => trivial | exact id | exact And.right | exact And.left | exact fun h => h.1.2 | exact fun h => h.1.1))
    | (apply Q_min; (refine Ev.of rfl ?_; first | exact fun _ => trivial | exact id | exact And.right | exact And.left | exact fun h => h.1.2 | exact fun h => h.1.1); (refine Ev.of rfl ?_; first | exact fun _ => trivial | exact id | exact And.right | exact And.left | exact fun h => h.1.2 | exact fun h => h.1.1))
    | (apply Q_lenm TYok; (refine Ev.of rfl ?_; first | exact fun _ => trivial | exact id | exact And.right | exact And.left | exact fun h => h.1.2 | exact fun h => h.1.1); exact rfl; exact rfl)
    | (apply Q_lend TYok; (refine Ev.of rfl ?_; first | exact fun _ => trivial | exact id | exact And.right | exact And.left | exact fun h => h.1.2 | exact fun h => h.1.1); exact rfl; exact rfl)
    | (apply Q_lenom TYok; (refine Ev.of rfl ?_; first | exact fun _ => trivial | exact id | exact And.right | exact And.left | exact fun h => h.1.2 | exact fun h => h.1.1); exact rfl; exact rfl; exact rfl)
    | (apply Q_len TYok; (refine Ev.of rfl ?_; first | exact fun _ => trivial | exact id | exact And.right | exact And.left | exact fun h => h.1.2 | exact fun h => h.1.1); exact rfl; exact rfl; exact rfl)
    | (apply Q_len0 TYok; (refine Ev.of rfl ?_; first | exact fun _ => trivial | exact id | exact And.right | exact And.left | exact fun h => h.1.2 | exact fun h => h.1.1); exact rfl; exact rfl)
    | (apply Q_lens TYok; (refine Ev.of rfl ?_; first | exact fun _ => trivial | exact id | exact And.right | exact And.left | exact fun h => h.1.2 | exact fun h => h.1.1); exact rfl; exact rfl)
    | (apply Q_indexd TYok; (refine Ev.of rfl ?_; first | exact fun _ => trivial | exact id | exact And.right | exact And.left | exact fun h => h.1.2 | exact fun h => h.1.1); (refine Ev.of rfl ?_; first | exact fun _ => trivial | exact id | exact And.right | exact And.left | exact fun h => h.1.2 | exact fun h => h.1.1); exact rfl; exact rfl; exact rfl; (intro hg; first | exact getRowN (by first | omega | (simp at hg; omega)) | exact getRowI (by first | omega | (simp at hg; omega))); exact rfl)
    | (apply Q_index TYok; (refine Ev.of rfl ?_; first | exact fun _ => trivial | exact id | exact And.right | exact And.left | exact fun h => h.1.2 | exact fun h => h.1.1); (refine Ev.of rfl ?_; first | exact fun _ => trivial | exact id | exact And.right | exact And.left | exact fun h => h.1.2 | exact fun h => h.1.1); exact rfl; exact rfl; exact rfl; exact rfl; exact rfl; (intro hg; first | (simp; omega) | (simp at hg; simp; omega)))
    | (apply Q_binS; (refine Ev.of rfl ?_; first | exact fun _ => trivial | exact id | exact And.right | exact And.left | exact fun h => h.1.2 | exact fun h => h.1.1); (refine Ev.of rfl ?_; first | exact fun _ => trivial | exact id | exact And.right | exact And.left | exact fun h => h.1.2 | exact fun h => h.1.1); exact rfl)
    | (apply Q_neg; (refine Ev.of rfl ?_; first | exact fun _ => trivial | exact id | exact And.right | exact And.left | exact fun h => h.1.2 | exact fun h => h.1.1); (first | omega | (constructor <;> omega)))
    | (apply Q_extract; (refine Ev.of rfl ?_; first | exact fun _ => trivial | exact id | exact And.right | exact And.left | exact fun h => h.1.2 | exact fun h => h.1.1); exact rfl)
    | (apply Q_convI TYok; exact rfl; exact rfl; exact rfl; exact rfl; (refine Ev.of rfl ?_; first | exact fun _ => trivial | exact id | exact And.right | exact And.left | exact fun h => h.1.2 | exact fun h => h.1.1); (first | omega | (constructor <;> omega)))
    | (apply Q_conv TYok; exact rfl; exact rfl; exact rfl; exact rfl; (refine Ev.of rfl ?_; first | exact fun _ => trivial | exact id | exact And.right | exact And.left | exact fun h => h.1.2 | exact fun h => h.1.1))
    | (apply Q_build TYok; (repeat (first | exact EvP.nil | apply EvP.cons (by refine Ev.of rfl ?_; first | exact fun _ => trivial | exact id | exact And.right | exact And.left | exact fun h => h.1.2 | exact fun h => h.1.1))); exact rfl; exact rfl; exact rfl; exact rfl)); exact rfl)
    | (apply Ug_; exact rfl; exact rfl; (first
    | (apply Q_move; (refine Ev.of rfl ?_; first | exact fun _ => trivial | exact id | exact And.right | exact And.left | exact fun h => h.1.2 | exact fun h => h.1.1))
    | (apply Q_assign; (refine Ev.of rfl ?_; first | exact fun _ => trivial | exact id | exact And.right | exact And.left | exact fun h => h.1.2 | exact fun h => h.1.1))
    | (apply Q_fieldp TYok; (refine Ev.of rfl ?_; first | exact fun _ => trivial | exact id | exact And.right | exact And.left | exact fun h => h.1.2 | exact fun h => h.1.1); exact rfl; exact rfl; exact rfl; exact rfl; exact rfl)
    | (apply Q_field TYok; (refine Ev.of rfl ?_; first | exact fun _ => trivial | exact id | exact And.right | exact And.left | exact fun h => h.1.2 | exact fun h => h.1.1); exact rfl; exact rfl; exact rfl; exact rfl; exact rfl)
    | (apply Q_loadp TYok; exact rfl; exact rfl; (refine Ev.of rfl ?_; first | exact fun _ => trivial | exact id | exact And.right | exact And.left | exact fun h => h.1.2 | exact fun h => h.1.1); exact rfl)
    | (apply Q_load TYok; exact rfl; exact rfl; (refine Ev.of rfl ?_; first | exact fun _ => trivial | exact id | exact And.right | exact And.left | exact fun h => h.1.2 | exact fun h => h.1.1); exact rfl; exact rfl; exact rfl)
    | (apply Q_loadm TYok; exact rfl; exact rfl; (refine Ev.of rfl ?_; first | exact fun _ => trivial | exact id | exact And.right | exact And.left | exact fun h => h.1.2 | exact fun h => h.1.1); exact rfl; infer_instance; (intro hg; first | omega | (simp; omega) | (simp at hg; simp; omega)); exact rfl)
    | (apply Q_loadpa TYok; exact rfl; exact rfl; (refine Ev.of rfl ?_; first | exact fun _ => trivial | exact id | exact And.right | exact And.left | exact fun h => h.1.2 | exact fun h => h.1.1); exact rfl)
    | (apply Q_loada TYok; exact rfl; exact rfl; (refine Ev.of rfl ?_; first | exact fun _ => trivial | exact id | exact And.right | exact And.left | exact fun h => h.1.2 | exact fun h => h.1.1); exact rfl; exact rfl; exact rfl)
    | (apply Q_loadma TYok; exact rfl; exact rfl; (refine Ev.of rfl ?_; first | exact fun _ => trivial | exact id | exact And.right | exact And.left | exact fun h => h.1.2 | exact fun h => h.1.1); exact rfl; infer_instance; (intro hg; first | omega | (simp; omega) | (simp at hg; simp; omega)); exact rfl)
    | (apply Q_add; (refine Ev.of rfl ?_; first | exact fun _ => trivial | exact id | exact And.right | exact And.left | exact fun h => h.1.2 | exact fun h => h.1.1); (refine Ev.of rfl ?_; first | exact fun _ => trivial | exact id | exact And.right | exact And.left | exact fun h => h.1.2 | exact fun h => h.1.1); (first | omega | (constructor <;> omega)))
    | (apply Q_sub; (refine Ev.of rfl ?_; first | exact fun _ => trivial | exact id | exact And.right | exact And.left | exact fun h => h.1.2 | exact fun h => h.1.1); (refine Ev.of rfl ?_; first | exact fun _ => trivial | exact id | exact And.right | exact And.left | exact fun h => h.1.2 | exact fun h => h.1.1); (first | omega | (constructor <;> omega)))
    | (apply Q_mul; (refine Ev.of rfl ?_; first | exact fun _ => trivial | exact id | exact And.right | exact And.left | exact fun h => h.1.2 | exact fun h => h.1.1); (refine Ev.of rfl ?_; first | exact fun _ => trivial | exact id | exact And.right | exact And.left | exact fun h => h.1.2 | exact fun h => h.1.1); (first | omega | (constructor <;> omega)))
    | (apply Q_quoN; (refine Ev.of rfl ?_; first | exact fun _ => trivial | exact id | exact And.right | exact And.left | exact fun h => h.1.2 | exact fun h => h.1.1); (refine Ev.of rfl ?_; first | exact fun _ => trivial | exact id | exact And.right | exact And.left | exact fun h => h.1.2 | exact fun h => h.1.1); (first | omega | (constructor <;> omega)))
    | (apply Q_remN; (refine Ev.of rfl ?_; first | exact fun _ => trivial | exact id | exact And.right | exact And.left | exact fun h => h.1.2 | exact fun h => h.1.1); (refine Ev.of rfl ?_; first | exact fun _ => trivial | exact id | exact And.right | exact And.left | exact fun h => h.1.2 | exact fun h => h.1.1); (first | omega | (constructor <;> omega)))
    | (apply Q_bin; (refine Ev.of rfl ?_; first | exact fun _ => trivial | exact id | exact And.right | exact And.left | exact fun h => h.1.2 | exact fun h => h.1.1); (refine Ev.of rfl ?_; first | exact fun _ => trivial | exact id | exact And.right | exact And.left | exact fun h => h.1.2 | exact fun h => h.1.1); exact rfl)
    | (apply Q_or; (refine Ev.of rfl ?_; first | exact fun _ => trivial | exact id | exact And.right | exact And.left | exact fun h => h.1.2 | exact fun h => h.1.1); (refine Ev.of rfl ?_; first | exact fun _ => trivial | exact id | exact And.right | exact And.left | exact fun h => h.1.2 | exact fun h => h.1.1))
    | (apply Q_and; (refine Ev.of rfl ?_; first | exact fun _ => trivial | exact id | exact And.right | exact And.left | exact fun h => h.1.2 | exact fun h => h.1.1); (refine Ev.of rfl ?_; first | exact fun _ => trivial | exact id | exact And.right | exact And.left | exact fun h => h.1.2 | exact fun h => h.1.1))
    | (apply Q_not; (refine Ev.of rfl ?_; first | exact fun _ => trivial | exact id | exact And.right | exact And.left | exact fun h => h.1.2 | exact fun h => h.1.1))
    | (apply Q_max; (refine Ev.of rfl ?_; first | exact fun _ => trivial | exact id | exact And.right | exact And.left | exact fun h => h.1.2 | exact fun h => h.1.1); (refine Ev.of rfl ?_; first | exact fun _ => trivial | exact id | exact And.right | exact And.left | exact fun h => h.1.2 | exact fun h => h.1.1))
    | (apply Q_min; (refine Ev.of rfl ?_; first | exact fun _ => trivial | exact id | exact And.right | exact And.left | exact fun h => h.1.2 | exact fun h => h.1.1); (refine Ev.of rfl ?_; first | exact fun _ => trivial | exact id | exact And.right | exact And.left | exact fun h => h.1.2 | exact fun h => h.1.1))
    | (apply Q_lenm TYok; (refine Ev.of rfl ?_; first | exact fun _ => trivial | exact id | exact And.right | exact And.left | exact fun h => h.1.2 | exact fun h => h.1.1); exact rfl; exact rfl)
    | (apply Q_lend TYok; (refine Ev.of rfl ?_; first | exact fun _ => trivial | exact id | exact And.right | exact And.left | exact fun h => h.1.2 | exact fun h => h.1.1); exact rfl; exact rfl)
    | (apply Q_lenom TYok; (refine Ev.of rfl ?_; first | exact fun _ => trivial | exact id | exact And.right | exact And.left | exact fun h => h.1.2 | exact fun h => h.1.1); exact rfl; exact rfl; exact rfl)
    | (apply Q_len TYok; (refine Ev.of rfl ?_; first | exact fun _ => trivial | exact id | exact And.right | exact And.left | exact fun h => h.1.2 | exact fun h => h.1.1); exact rfl; exact rfl; exact rfl)
    | (apply Q_len0 TYok; (refine Ev.of rfl ?_; first | exact fun _ => trivial | exact id | exact And.right | exact And.left | exact fun h => h.1.2 | exact fun h => h.1.1); exact rfl; exact rfl)
    | (apply Q_lens TYok; (refine Ev.of rfl ?_; first | exact fun _ => trivial | exact id | exact And.right | exact And.left | exact fun h => h.1.2 | exact fun h => h.1.1); exact rfl; exact rfl)
    | (apply Q_indexd TYok; (refine Ev.of rfl ?_; first | exact fun _ => trivial | exact id | exact And.right | exact And.left | exact fun h => h.1.2 | exact fun h => h.1.1); (refine Ev.of rfl ?_; first | exact fun _ => trivial | exact id | exact And.right | exact And.left | exact fun h => h.1.2 | exact fun h => h.1.1); exact rfl; exact rfl; exact rfl; (intro hg; first | exact getRowN (by first | omega | (simp at hg; omega)) | exact getRowI (by first | omega | (simp at hg; omega))); exact rfl)
    | (apply Q_index TYok; (refine Ev.of rfl ?_; first | exact fun _ => trivial | exact id | exact And.right | exact And.left | exact fun h => h.1.2 | exact fun h => h.1.1); (refine Ev.of rfl ?_; first | exact fun _ => trivial | exact id | exact And.right | exact And.left | exact fun h => h.1.2 | exact fun h => h.1.1); exact rfl; exact rfl; exact rfl; exact rfl; exact rfl; (intro hg; first | (simp; omega) | (simp at hg; simp; omega)))
    | (apply Q_binS; (refine Ev.of rfl ?_; first | exact fun _ => trivial | exact id | exact And.right | exact And.left | exact fun h => h.1.2 | exact fun h => h.1.1); (refine Ev.of rfl ?_; first | exact fun _ => trivial | exact id | exact And.right | exact And.left | exact fun h => h.1.2 | exact fun h => h.1.1); exact rfl)
    | (apply Q_neg; (refine Ev.of rfl ?_; first | exact fun _ => trivial | exact id | exact And.right | exact And.left | exact fun h => h.1.2 | exact fun h => h.1.1); (first | omega | (constructor <;> omega)))
    | (apply Q_extract; (refine Ev.of rfl ?_; first | exact fun _ => trivial | exact id | exact And.right | exact And.left | exact fun h => h.1.2 | exact fun h => h.1.1); exact rfl)
    | (apply Q_convI TYok; exact rfl; exact rfl; exact rfl; exact rfl; (refine Ev.of rfl ?_; first | exact fun _ => trivial | exact id | exact And.right | exact And.left | exact fun h => h.1.2 | exact fun h => h.1.1); (first | omega | (constructor <;> omega)))
    | (apply Q_conv TYok; exact rfl; exact rfl; exact rfl; exact rfl; (refine Ev.of rfl ?_; first | exact fun _ => trivial | exact id | exact And.right | exact And.left | exact fun h => h.1.2 | exact fun h => h.1.1))
    | (apply Q_build TYok; (repeat (first | exact EvP.nil | apply EvP.cons (by refine Ev.of rfl ?_; first | exact fun _ => trivial | exact id | exact And.right | exact And.left | exact fun h => h.1.2 | exact fun h => h.1.1))); exact rfl; exact rfl; exact rfl; exact rfl)); exact rfl)
    | (apply S_alloc TYok; exact rfl; exact rfl; exact rfl; exact rfl)
    | (apply S_store TYok; (refine Ev.of rfl ?_; first | exact fun _ => trivial | exact id | exact And.right | exact And.left | exact fun h => h.1.2 | exact fun h => h.1.1); (refine Ev.of rfl ?_; first | exact fun _ => trivial | exact id | exact And.right | exact And.left | exact fun h => h.1.2 | exact fun h => h.1.1); exact rfl; exact rfl; exact rfl; exact rfl; exact rfl)
    | (apply S_storem TYok; (refine Ev.of rfl ?_; first | exact fun _ => trivial | exact id | exact And.right | exact And.left | exact fun h => h.1.2 | exact fun h => h.1.1); (refine Ev.of rfl ?_; first | exact fun _ => trivial | exact id | exact And.right | exact And.left | exact fun h => h.1.2 | exact fun h => h.1.1); exact rfl; exact rfl; (first | omega | (simp; omega)); exact rfl; (intro z; exact rfl))
    | (apply S_lit TYok; (repeat (first | exact EvR.nil | apply EvR.cons (by refine Ev.of rfl ?_; first | exact fun _ => trivial | exact id | exact And.right | exact And.left | exact fun h => h.1.2 | exact fun h => h.1.1))); exact rfl; exact rfl; exact rfl; exact rfl; exact rfl; exact rfl; exact rfl; exact rfl; exact rfl)
    | (apply S_make TYok; (refine Ev.of rfl ?_; first | exact fun _ => trivial | exact id | exact And.right | exact And.left | exact fun h => h.1.2 | exact fun h => h.1.1); (refine Ev.of rfl ?_; first | exact fun _ => trivial | exact id | exact And.right | exact And.left | exact fun h => h.1.2 | exact fun h => h.1.1); exact rfl; exact rfl; exact rfl; exact rfl; (refine ⟨by omega, by omega, by simp; omega, by omega⟩); exact rfl; exact rfl)
    | (apply S_append TYok; (refine Ev.of rfl ?_; first | exact fun _ => trivial | exact id | exact And.right | exact And.left | exact fun h => h.1.2 | exact fun h => h.1.1); (refine Ev.of rfl ?_; first | exact fun _ => trivial | exact id | exact And.right | exact And.left | exact fun h => h.1.2 | exact fun h => h.1.1); exact rfl; exact rfl; exact rfl; exact rfl; exact rfl; exact rfl; exact rfl; exact rfl; exact rfl; exact rfl; (constructor <;> simp <;> omega); exact rfl)
    | (apply S_append0 TYok; (refine Ev.of rfl ?_; first | exact fun _ => trivial | exact id | exact And.right | exact And.left | exact fun h => h.1.2 | exact fun h => h.1.1); (refine Ev.of rfl ?_; first | exact fun _ => trivial | exact id | exact And.right | exact And.left | exact fun h => h.1.2 | exact fun h => h.1.1); exact rfl; exact rfl; exact rfl; exact rfl; exact rfl; exact rfl; exact rfl; (constructor <;> simp <;> omega); exact rfl; exact rfl)
    | (apply S_box; (refine Ev.of rfl ?_; first | exact fun _ => trivial | exact id | exact And.right | exact And.left | exact fun h => h.1.2 | exact fun h => h.1.1); exact rfl; exact rfl)
    | (refine W.cond (by refine Ev.of rfl ?_; first | exact fun _ => trivial | exact id | exact And.right | exact And.left | exact fun h => h.1.2 | exact fun h => h.1.1) (fun hb => ?_) (fun hb => ?_) <;> (try simp at hb) <;> (try (exfalso; omega))))
  apply W.loopP (σ := Nat × Int) 69 [0, 1, 11, 12] (fun (k, s) => k ≤ us.length ∧ 0 ≤ s ∧ s ≤ 1000000000 * k ∧ usOk us = usOk (us.drop k) ∧ us.sum = s + (us.drop k).sum) (fun (k, s) => [(13, vI k), (5, vI s)]) (fun _ => []) (fun (k, _) => us.length - k) ((0, 0))
  case hp => repeat (first | exact Pick.nil | apply Pick.cons rfl)
  case h0 =>
    refine ⟨by simp, ?_⟩
    refine Le.mkR rfl rfl ?_ ?_ ?_ rfl
    · repeat (first | exact SubR.nil | apply SubR.p rfl (by first | rfl | (simp; done) | (congr 3; omega) | (congr 3; simp; omega)) | apply SubR.s rfl rfl rfl | apply SubR.a rfl rfl rfl | apply SubR.t rfl rfl)
    · repeat (first | exact SubR.nil | apply SubR.p rfl (by first | rfl | (simp; done) | (congr 3; omega) | (congr 3; simp; omega)) | apply SubR.s rfl rfl rfl | apply SubR.a rfl rfl rfl | apply SubR.t rfl rfl)
    · repeat (first | exact SubBR.nil | apply SubBR.cons rfl (by first | rfl | (simp only [List.map_append, List.map_replicate, List.map_cons, List.map_nil]; rfl) | (simp; done)))
  case round =>
    rintro ⟨k, s⟩ ⟨h1, h2, h3, h4, h5⟩
    apply W.norm (by repeat (first | exact App.nil | apply App.cons))
    repeat' (first
      | apply RG.nil
      | apply Then.n
      | apply Then.r
      | apply Then.x
      | apply InBlock.n
      | apply InBlock.r
      | apply InBlock.hit
      | (apply InBlock.miss; exact rfl)
      | apply W.seq
      | apply W.region
      | apply W.block
      | apply W.skip
      | apply W.ret
      | apply W.exit
      | (apply U_; (first
    | (apply Q_move; (refine Ev.of rfl ?_; first | exact fun _ => trivial | exact id | exact And.right | exact And.left | exact fun h => h.1.2 | exact fun h => h.1.1))
    | (apply Q_assign; (refine Ev.of rfl ?_; first | exact fun _ => trivial | exact id | exact And.right | exact And.left | exact fun h => h.1.2 | exact fun h => h.1.1))
    | (apply Q_fieldp TYok; (refine Ev.of rfl ?_; first | exact fun _ => trivial | exact id | exact And.right | exact And.left | exact fun h => h.1.2 | exact fun h => h.1.1); exact rfl; exact rfl; exact rfl; exact rfl; exact rfl)
    | (apply Q_field TYok; (refine Ev.of rfl ?_; first | exact fun _ => trivial | exact id | exact And.right | exact And.left | exact fun h => h.1.2 | exact fun h => h.1.1); exact rfl; exact rfl; exact rfl; exact rfl; exact rfl)
    | (apply Q_loadp TYok; exact rfl; exact rfl; (refine Ev.of rfl ?_; first | exact fun _ => trivial | exact id | exact And.right | exact And.left | exact fun h => h.1.2 | exact fun h => h.1.1); exact rfl)
    | (apply Q_load TYok; exact rfl; exact rfl; (refine Ev.of rfl ?_; first | exact fun _ => trivial | exact id | exact And.right | exact And.left | exact fun h => h.1.2 | exact fun h => h.1.1); exact rfl; exact rfl; exact rfl)
    | (apply Q_loadm TYok; exact rfl; exact rfl; (refine Ev.of rfl ?_; first | exact fun _ => trivial | exact id | exact And.right | exact And.left | exact fun h => h.1.2 | exact fun h => h.1.1); exact rfl; infer_instance; (intro hg; first | omega | (simp; omega) | (simp at hg; simp; omega)); exact rfl)
    | (apply Q_loadpa TYok; exact rfl; exact rfl; (refine Ev.of rfl ?_; first | exact fun _ => trivial | exact id | exact And.right | exact And.left | exact fun h => h.1.2 | exact fun h => h.1.1); exact rfl)
    | (apply Q_loada TYok; exact rfl; exact rfl; (refine Ev.of rfl ?_; first | exact fun _ => trivial | exact id | exact And.right | exact And.left | exact fun h => h.1.2 | exact fun h => h.1.1); exact rfl; exact rfl; exact rfl)
    | (apply Q_loadma TYok; exact rfl; exact rfl; (refine Ev.of rfl ?_; first | exact fun _ => trivial | exact id | exact And.right | exact And.left | exact fun h => h.1.2 | exact fun h => h.1.1); exact rfl; infer_instance; (intro hg; first | omega | (simp; omega) | (simp at hg; simp; omega)); exact rfl)
    | (apply Q_add; (refine Ev.of rfl ?_; first | exact fun _ => trivial | exact id | exact And.right | exact And.left | exact fun h => h.1.2 | exact fun h => h.1.1); (refine Ev.of rfl ?_; first | exact fun _ => trivial | exact id | exact And.right | exact And.left | exact fun h => h.1.2 | exact fun h => h.1.1); (first | omega | (constructor <;> omega)))
    | (apply Q_sub; (refine Ev.of rfl ?_; first | exact fun _ => trivial | exact id | exact And.right | exact And.left | exact fun h => h.1.2 | exact fun h => h.1.1); (refine Ev.of rfl ?_; first | exact fun _ => trivial | exact id | exact And.right | exact And.left | exact fun h => h.1.2 | exact fun h => h.1.1); (first | omega | (constructor <;> omega)))
    | (apply Q_mul; (refine Ev.of rfl ?_; first | exact fun _ => trivial | exact id | exact And.right | exact And.left | exact fun h => h.1.2 | exact fun h => h.1.1); (refine Ev.of rfl ?_; first | exact fun _ => trivial | exact id | exact And.right | exact And.left | exact fun h => h.1.2 | exact fun h => h.1.1); (first | omega | (constructor <;> omega)))
    | (apply Q_quoN; (refine Ev.of rfl ?_; first | exact fun _ => trivial | exact id | exact And.right | exact And.left | exact fun h => h.1.2 | exact fun h => h.1.1); (refine Ev.of rfl ?_; first | exact fun _ => trivial | exact id | exact And.right | exact And.left | exact fun h => h.1.2 | exact fun h => h.1.1); (first | omega | (constructor <;> omega)))
    | (apply Q_remN; (refine Ev.of rfl ?_; first | exact fun _ => trivial | exact id | exact And.right | exact And.left | exact fun h => h.1.2 | exact fun h => h.1.1); (refine Ev.of rfl ?_; first | exact fun _ => trivial | exact id | exact And.right | exact And.left | exact fun h => h.1.2 | exact fun h => h.1.1); (first | omega | (constructor <;> omega)))
    | (apply Q_bin; (refine Ev.of rfl ?_; first | exact fun _ => trivial | exact id | exact And.right | exact And.left | exact fun h => h.1.2 | exact fun h => h.1.1); (refine Ev.of rfl ?_; first | exact fun _ => trivial | exact id | exact And.right | exact And.left | exact fun h => h.1.2 | exact fun h => h.1.1); exact rfl)
    | (apply Q_or; (refine Ev.of rfl ?_; first | exact fun _ => trivial | exact id | exact And.right | exact And.left | exact fun h => h.1.2 | exact fun h => h.1.1); (refine Ev.of rfl ?_; first | exact fun _ => trivial | exact id | exact And.right | exact And.left | exact fun h => h.1.2 | exact fun h => h.1.1))
    | (apply Q_and; (refine Ev.of rfl ?_; first | exact fun _ => trivial | exact id | exact And.right | exact And.left | exact fun h => h.1.2 | exact fun h => h.1.1); (refine Ev.of rfl ?_; first | exact fun _ => trivial | exact id | exact And.right | exact And.left | exact fun h => h.1.2 | exact fun h => h.1.1))
    | (apply Q_not; (refine Ev.of rfl ?_; first | exact fun _ => trivial | exact id | exact And.right | exact And.left | exact fun h => h.1.2 | exact fun h => h.1.1))
    | (apply Q_max; (refine Ev.of rfl ?_; first | exact fun _ => trivial | exact id | exact And.right | exact And.left | exact fun h => h.1.2 | exact fun h => h.1.1); (refine Ev.of rfl ?_; first | exact fun _ => trivial | exact id | exact And.right | exact And.left | exact fun h => h.1.2 | exact fun h => h.1.1))
    | (apply Q_min; (refine Ev.of rfl ?_; first | exact fun _ => trivial | exact id | exact And.right | exact And.left | exact fun h => h.1.2 | exact fun h => h.1.1); (refine Ev.of rfl ?_; first | exact fun _ => trivial | exact id | exact And.right | exact And.left | exact fun h => h.1.2 | exact fun h => h.1.1))
    | (apply Q_lenm TYok; (refine Ev.of rfl ?_; first | exact fun _ => trivial | exact id | exact And.right | exact And.left | exact fun h => h.1.2 | exact fun h => h.1.1); exact rfl; exact rfl)
    | (apply Q_lend TYok; (refine Ev.of rfl ?_; first | exact fun _ => trivial | exact id | exact And.right | exact And.left | exact fun h => h.1.2 | exact fun h => h.1.1); exact rfl; exact rfl)
    | (apply Q_lenom TYok; (refine Ev.of rfl ?_; first | exact fun _ => trivial | exact id | exact And.right | exact And.left | exact fun h => h.1.2 | exact fun h => h.1.1); exact rfl; exact rfl; exact rfl)
    | (apply Q_len TYok; (refine Ev.of rfl ?_; first | exact fun _ => trivial | exact id | exact And.right | exact And.left | exact fun h => h.1.2 | exact fun h => h.1.1); exact rfl; exact rfl; exact rfl)
    | (apply Q_len0 TYok; (refine Ev.of rfl ?_; first | exact fun _ => trivial | exact id | exact And.right | exact And.left | exact fun h => h.1.2 | exact fun h => h.1.1); exact rfl; exact rfl)
    | (apply Q_lens TYok; (refine Ev.of rfl ?_; first | exact fun _ => trivial | exact id | exact And.right | exact And.left | exact fun h => h.1.2 | exact fun h => h.1.1); exact rfl; exact rfl)
    | (apply Q_indexd TYok; (refine Ev.of rfl ?_; first | exact fun _ => trivial | exact id | exact And.right | exact And.left | exact fun h => h.1.2 | exact fun h => h.1.1); (refine Ev.of rfl ?_; first | exact fun _ => trivial | exact id | exact And.right | exact And.left | exact fun h => h.1.2 | exact fun h => h.1.1); exact rfl; exact rfl; exact rfl; (intro hg; first | exact getRowN (by first | omega | (simp at hg; omega)) | exact getRowI (by first | omega | (simp at hg; omega))); exact rfl)
    | (apply Q_index TYok; (refine Ev.of rfl ?_; first | exact fun _ => trivial | exact id | exact And.right | exact And.left | exact fun h => h.1.2 | exact fun h => h.1.1); (refine Ev.of rfl ?_; first | exact fun _ => trivial | exact id | exact And.right | exact And.left | exact fun h => h.1.2 | exact fun h => h.1.1); exact rfl; exact rfl; exact rfl; exact rfl; exact rfl; (intro hg; first | (simp; omega) | (simp at hg; simp; omega)))
    | (apply Q_binS; (refine Ev.of rfl ?_; first | exact fun _ => trivial | exact id | exact And.right | exact And.left | exact fun h => h.1.2 | exact fun h => h.1.1); (refine Ev.of rfl ?_; first | exact fun _ => trivial | exact id | exact And.right | exact And.left | exact fun h => h.1.2 | exact fun h => h.1.1); exact rfl)
    | (apply Q_neg; (refine Ev.of rfl ?_; first | exact fun _ => trivial | exact id | exact And.right | exact And.left | exact fun h => h.1.2 | exact fun h => h.1.1); (first | omega | (constructor <;> omega)))
    | (apply Q_extract; (refine Ev.of rfl ?_; first | exact fun _ => trivial | exact id | exact And.right | exact And.left | exact fun h => h.1.2 | exact fun h => h.1.1); exact rfl)
    | (apply Q_convI TYok; exact rfl; exact rfl; exact rfl; exact rfl; (refine Ev.of rfl ?_; first | exact fun _ => trivial | exact id | exact And.right | exact And.left | exact fun h => h.1.2 | exact fun h => h.1.1); (first | omega | (constructor <;> omega)))
    | (apply Q_conv TYok; exact rfl; exact rfl; exact rfl; exact rfl; (refine Ev.of rfl ?_; first | exact fun _ => trivial | exact id | exact And.right | exact And.left | exact fun h => h.1.2 | exact fun h => h.1.1))
    | (apply Q_build TYok; (repeat (first | exact EvP.nil | apply EvP.cons (by refine Ev.of rfl ?_; first | exact fun _ => trivial | exact id | exact And.right | exact And.left | exact fun h => h.1.2 | exact fun h => h.1.1))); exact rfl; exact rfl; exact rfl; exact rfl)); exact rfl)
      | (apply Ug_; exact rfl; exact rfl; (first
    | (apply Q_move; (refine Ev.of rfl ?_; first | exact fun _ => trivial | exact id | exact And.right | exact And.left | exact fun h => h.1.2 | exact fun h => h.1.1))
    | (apply Q_assign; (refine Ev.of rfl ?_; first | exact fun _ => trivial | exact id | exact And.right | exact And.left | exact fun h => h.1.2 | exact fun h => h.1.1))
    | (apply Q_fieldp TYok; (refine Ev.of rfl ?_; first | exact fun _ => trivial | exact id | exact And.right | exact And.left | exact fun h => h.1.2 | exact fun h => h.1.1); exact rfl; exact rfl; exact rfl; exact rfl; exact rfl)
    | (apply Q_field TYok; (refine Ev.of rfl ?_; first | exact fun _ => trivial | exact id | exact And.right | exact And.left | exact fun h => h.1.2 | exact fun h => h.1.1); exact rfl; exact rfl; exact rfl; exact rfl; exact rfl)
    | (apply Q_loadp TYok; exact rfl; exact rfl; (refine Ev.of rfl ?_; first | exact fun _ => trivial | exact id | exact And.right | exact And.left | exact fun h => h.1.2 | exact fun h => h.1.1); exact rfl)
    | (apply Q_load TYok; exact rfl; exact rfl; (refine Ev.of rfl ?_; first | exact fun _ => trivial | exact id | exact And.right | exact And.left | exact fun h => h.1.2 | exact fun h => h.1.1); exact rfl; exact rfl; exact rfl)
    | (apply Q_loadm TYok; exact rfl; exact rfl; (refine Ev.of rfl ?_; first | exact fun _ => trivial | exact id | exact And.right | exact And.left | exact fun h => h.1.2 | exact fun h => h.1.1); exact rfl; infer_instance; (intro hg; first | omega | (simp; omega) | (simp at hg; simp; omega)); exact rfl)
    | (apply Q_loadpa TYok; exact rfl; exact rfl; (refine Ev.of rfl ?_; first | exact fun _ => trivial | exact id | exact And.right | exact And.left | exact fun h => h.1.2 | exact fun h => h.1.1); exact rfl)
    | (apply Q_loada TYok; exact rfl; exact rfl; (refine Ev.of rfl ?_; first | exact fun _ => trivial | exact id | exact And.right | exact And.left | exact fun h => h.1.2 | exact fun h => h.1.1); exact rfl; exact rfl; exact rfl)
    | (apply Q_loadma TYok; exact rfl; exact rfl; (refine Ev.of rfl ?_; first | exact fun _ => trivial | exact id | exact And.right | exact And.left | exact fun h => h.1.2 | exact fun h => h.1.1); exact rfl; infer_instance; (intro hg; first | omega | (simp; omega) | (simp at hg; simp; omega)); exact rfl)
    | (apply Q_add; (refine Ev.of rfl ?_; first | exact fun _ => trivial | exact id | exact And.right | exact And.left | exact fun h => h.1.2 | exact fun h => h.1.1); (refine Ev.of rfl ?_; first | exact fun _ => trivial | exact id | exact And.right | exact And.left | exact fun h => h.1.2 | exact fun h => h.1.1); (first | omega | (constructor <;> omega)))
    | (apply Q_sub; (refine Ev.of rfl ?_; first | exact fun _ => trivial | exact id | exact And.right | exact And.left | exact fun h => h.1.2 | exact fun h => h.1.1); (refine Ev.of rfl ?_; first | exact fun _ => trivial | exact id | exact And.right | exact And.left | exact fun h => h.1.2 | exact fun h => h.1.1); (first | omega | (constructor <;> omega)))
    | (apply Q_mul; (refine Ev.of rfl ?_; first | exact fun _ => trivial | exact id | exact And.right | exact And.left | exact fun h => h.1.2 | exact fun h => h.1.1); (refine Ev.of rfl ?_; first | exact fun _ => trivial | exact id | exact And.right | exact And.left | exact fun h => h.1.2 | exact fun h => h.1.1); (first | omega | (constructor <;> omega)))
    | (apply Q_quoN; (refine Ev.of rfl ?_; first | exact fun _ => trivial | exact id | exact And.right | exact And.left | exact fun h => h.1.2 | exact fun h => h.1.1); (refine Ev.of rfl ?_; first | exact fun _ => trivial | exact id | exact And.right | exact And.left | exact fun h => h.1.2 | exact fun h => h.1.1); (first | omega | (constructor <;> omega)))
    | (apply Q_remN; (refine Ev.of rfl ?_; first | exact fun _ => trivial | exact id | exact And.right | exact And.left | exact fun h => h.1.2 | exact fun h => h.1.1); (refine Ev.of rfl ?_; first | exact fun _ => trivial | exact id | exact And.right | exact And.left | exact fun h => h.1.2 | exact fun h => h.1.1); (first | omega | (constructor <;> omega)))
    | (apply Q_bin; (refine Ev.of rfl ?_; first | exact fun _ => trivial | exact id | exact And.right | exact And.left | exact fun h => h.1.2 | exact fun h => h.1.1); (refine Ev.of rfl ?_; first | exact fun _ => trivial | exact id | exact And.right | exact And.left | exact fun h => h.1.2 | exact fun h => h.1.1); exact rfl)
    | (apply Q_or; (refine Ev.of rfl ?_; first | exact fun _ => trivial | exact id | exact And.right | exact And.left | exact fun h => h.1.2 | exact fun h => h.1.1); (refine Ev.of rfl ?_; first | exact fun _ => trivial | exact id | exact And.right | exact And.left | exact fun h => h.1.2 | exact fun h => h.1.1))
    | (apply Q_and; (refine Ev.of rfl ?_; first | exact fun _ => trivial | exact id | exact And.right | exact And.left | exact fun h => h.1.2 | exact fun h => h.1.1); (refine Ev.of rfl ?_; first | exact fun _ => trivial | exact id | exact And.right | exact And.left | exact fun h => h.1.2 | exact fun h => h.1.1))
    | (apply Q_not; (refine Ev.of rfl ?_; first | exact fun _ => trivial | exact id | exact And.right | exact And.left | exact fun h => h.1.2 | exact fun h => h.1.1))
    | (apply Q_max; (refine Ev.of rfl ?_; first | exact fun _ => trivial | exact id | exact And.right | exact And.left | exact fun h => h.1.2 | exact fun h => h.1.1); (refine Ev.of rfl ?_; first | exact fun _ => trivial | exact id | exact And.right | exact And.left | exact fun h => h.1.2 | exact fun h => h.1.1))
    | (apply Q_min; (refine Ev.of rfl ?_; first | exact fun _ => trivial | exact id | exact And.right | exact And.left | exact fun h => h.1.2 | exact fun h => h.1.1); (refine Ev.of rfl ?_; first | exact fun _ => trivial | exact id | exact And.right | exact And.left | exact fun h => h.1.2 | exact fun h => h.1.1))
    | (apply Q_lenm TYok; (refine Ev.of rfl ?_; first | exact fun _ => trivial | exact id | exact And.right | exact And.left | exact fun h => h.1.2 | exact fun h => h.1.1); exact rfl; exact rfl)
    | (apply Q_lend TYok; (refine Ev.of rfl ?_; first | exact fun _ => trivial | exact id | exact And.right | exact And.left | exact fun h => h.1.2 | exact fun h => h.1.1); exact rfl; exact rfl)
    | (apply Q_lenom TYok; (refine Ev.of rfl ?_; first | exact fun _ => trivial | exact id | exact And.right | exact And.left | exact fun h => h.1.2 | exact fun h => h.1.1); exact rfl; exact rfl; exact rfl)
    | (apply Q_len TYok; (refine Ev.of rfl ?_; first | exact fun _ => trivial | exact id | exact And.right | exact And.left | exact fun h => h.1.2 | exact fun h => h.1.1); exact rfl; exact rfl; exact rfl)
    | (apply Q_len0 TYok; (refine Ev.of rfl ?_; first | exact fun _ => trivial | exact id | exact And.right | exact And.left | exact fun h => h.1.2 | exact fun h => h.1.1); exact rfl; exact rfl)
    | (apply Q_lens TYok; (refine Ev.of rfl ?_; first | exact fun _ => trivial | exact id | exact And.right | exact And.left | exact fun h => h.1.2 | exact fun h => h.1.1); exact rfl; exact rfl)
    | (apply Q_indexd TYok; (refine Ev.of rfl ?_; first | exact fun _ => trivial | exact id | exact And.right | exact And.left | exact fun h => h.1.2 | exact fun h => h.1.1); (refine Ev.of rfl ?_; first | exact fun _ => trivial | exact id | exact And.right | exact And.left | exact fun h => h.1.2 | exact fun h => h.1.1); exact rfl; exact rfl; exact rfl; (intro hg; first | exact getRowN (by first | omega | (simp at hg; omega)) | exact getRowI (by first | omega | (simp at hg; omega))); exact rfl)
    | (apply Q_index TYok; (refine Ev.of rfl ?_; first | exact fun _ => trivial | exact id | exact And.right | exact And.left | exact fun h => h.1.2 | exact fun h => h.1.1); (refine Ev.of rfl ?_; first | exact fun _ => trivial | exact id | exact And.right | exact And.left | exact fun h => h.1.2 | exact fun h => h.1.1); exact rfl; exact rfl; exact rfl; exact rfl; exact rfl; (intro hg; first | (simp; omega) | (simp at hg; simp; omega)))
    | (apply Q_binS; (refine Ev.of rfl ?_; first | exact fun _ => trivial | exact id | exact And.right | exact And.left | exact fun h => h.1.2 | exact fun h => h.1.1); (refine Ev.of rfl ?_; first | exact fun _ => trivial | exact id | exact And.right | exact And.left | exact fun h => h.1.2 | exact fun h => h.1.1); exact rfl)
    | (apply Q_neg; (refine Ev.of rfl ?_; first | exact fun _ => trivial | exact id | exact And.right | exact And.left | exact fun h => h.1.2 | exact fun h => h.1.1); (first | omega | (constructor <;> omega)))
    | (apply Q_extract; (refine Ev.of rfl ?_; first | exact fun _ => trivial | exact id | exact And.right | exact And.left | exact fun h => h.1.2 | exact fun h => h.1.1); exact rfl)
    | (apply Q_convI TYok; exact rfl; exact rfl; exact rfl; exact rfl; (refine Ev.of rfl ?_; first | exact fun _ => trivial | exact id | exact And.right | exact And.left | exact fun h => h.1.2 | exact fun h => h.1.1); (first | omega | (constructor <;> omega)))
    | (apply Q_conv TYok; exact rfl; exact rfl; exact rfl; exact rfl; (refine Ev.of rfl ?_; first | exact fun _ => trivial | exact id | exact And.right | exact And.left | exact fun h => h.1.2 | exact fun h => h.1.1))
    | (apply Q_build TYok; (repeat (first | exact EvP.nil | apply EvP.cons (by refine Ev.of rfl ?_; first | exact fun _ => trivial | exact id | exact And.right | exact And.left | exact fun h => h.1.2 | exact fun h => h.1.1))); exact rfl; exact rfl; exact rfl; exact rfl)); exact rfl)
      | (apply S_alloc TYok; exact rfl; exact rfl; exact rfl; exact rfl)
      | (apply S_store TYok; (refine Ev.of rfl ?_; first | exact fun _ => trivial | exact id | exact And.right | exact And.left | exact fun h => h.1.2 | exact fun h => h.1.1); (refine Ev.of rfl ?_; first | exact fun _ => trivial | exact id | exact And.right | exact And.left | exact fun h => h.1.2 | exact fun h => h.1.1); exact rfl; exact rfl; exact rfl; exact rfl; exact rfl)
      | (apply S_storem TYok; (refine Ev.of rfl ?_; first | exact fun _ => trivial | exact id | exact And.right | exact And.left | exact fun h => h.1.2 | exact fun h => h.1.1); (refine Ev.of rfl ?_; first | exact fun _ => trivial | exact id | exact And.right | exact And.left | exact fun h => h.1.2 | exact fun h => h.1.1); exact rfl; exact rfl; (first | omega | (simp; omega)); exact rfl; (intro z; exact rfl))
      | (apply S_lit TYok; (repeat (first | exact EvR.nil | apply EvR.cons (by refine Ev.of rfl ?_; first | exact fun _ => trivial | exact id | exact And.right | exact And.left | exact fun h => h.1.2 | exact fun h => h.1.1))); exact rfl; exact rfl; exact rfl; exact rfl; exact rfl; exact rfl; exact rfl; exact rfl; exact rfl)
      | (apply S_make TYok; (refine Ev.of rfl ?_; first | exact fun _ => trivial | exact id | exact And.right | exact And.left | exact fun h => h.1.2 | exact fun h => h.1.1); (refine Ev.of rfl ?_; first | exact fun _ => trivial | exact id | exact And.right | exact And.left | exact fun h => h.1.2 | exact fun h => h.1.1); exact rfl; exact rfl; exact rfl; exact rfl; (refine ⟨by omega, by omega, by simp; omega, by omega⟩); exact rfl; exact rfl)
      | (apply S_append TYok; (refine Ev.of rfl ?_; first | exact fun _ => trivial | exact id | exact And.right | exact And.left | exact fun h => h.1.2 | exact fun h => h.1.1); (refine Ev.of rfl ?_; first | exact fun _ => trivial | exact id | exact And.right | exact And.left | exact fun h => h.1.2 | exact fun h => h.1.1); exact rfl; exact rfl; exact rfl; exact rfl; exact rfl; exact rfl; exact rfl; exact rfl; exact rfl; exact rfl; (constructor <;> simp <;> omega); exact rfl)
      | (apply S_append0 TYok; (refine Ev.of rfl ?_; first | exact fun _ => trivial | exact id | exact And.right | exact And.left | exact fun h => h.1.2 | exact fun h => h.1.1); (refine Ev.of rfl ?_; first | exact fun _ => trivial | exact id | exact And.right | exact And.left | exact fun h => h.1.2 | exact fun h => h.1.1); exact rfl; exact rfl; exact rfl; exact rfl; exact rfl; exact rfl; exact rfl; (constructor <;> simp <;> omega); exact rfl; exact rfl)
      | (apply S_box; (refine Ev.of rfl ?_; first | exact fun _ => trivial | exact id | exact And.right | exact And.left | exact fun h => h.1.2 | exact fun h => h.1.1); exact rfl; exact rfl)
      | (refine W.cond (by refine Ev.of rfl ?_; first | exact fun _ => trivial | exact id | exact And.right | exact And.left | exact fun h => h.1.2 | exact fun h => h.1.1) (fun hb => ?_) (fun hb => ?_) <;> (try simp at hb) <;> (try (exfalso; omega))))
    · have e : rightF us vs = false := by
        rw [rightF, h4, usOk_drop ‹_›]
        rcases hb with h | h
        · simp [show ¬ (0 ≤ nth us k) by omega]
        · simp [show ¬ (nth us k ≤ 1000000000) by omega]
      rw [e]
      exact Fin.ret (by repeat (first | exact ResL.nil | refine ResL.cons rfl rfl (by first | exact PSub.rfl' | exact PSub.nil' | (refine PSub.of_eq ?_; simp; done)) ?_))
    · refine ⟨(k + 1, s + nth us k), ⟨by omega, by omega, by omega, ?_, ?_⟩, ?_, ?_⟩
      · rw [h4, usOk_drop ‹_›]; simp [hb]
      · rw [h5, drop_nth ‹_›]; simp; omega
      · refine Le.mkR rfl rfl ?_ ?_ ?_ rfl
        · repeat (first | exact SubR.nil | apply SubR.p rfl (by first | rfl | (simp; done) | (congr 3; omega) | (congr 3; simp; omega)) | apply SubR.s rfl rfl rfl | apply SubR.a rfl rfl rfl | apply SubR.t rfl rfl)
        · repeat (first | exact SubR.nil | apply SubR.p rfl (by first | rfl | (simp; done) | (congr 3; omega) | (congr 3; simp; omega)) | apply SubR.s rfl rfl rfl | apply SubR.a rfl rfl rfl | apply SubR.t rfl rfl)
        · repeat (first | exact SubBR.nil | apply SubBR.cons rfl (by first | rfl | (simp only [List.map_append, List.map_replicate, List.map_cons, List.map_nil]; rfl) | (simp; done)))
      · simp only; omega
    obtain rfl : k = us.length := by omega
    simp at h4 h5
    apply W.loopP (σ := Nat × Int) 69 [0, 1, 5, 27, 28] (fun (k, d) => k ≤ vs.length ∧ vsOk us.length 0 vs = vsOk us.length d (vs.drop k)) (fun (k, d) => [(29, vI k), (8, vI d)]) (fun _ => []) (fun (k, _) => vs.length - k) ((0, 0))
    case hp => repeat (first | exact Pick.nil | apply Pick.cons rfl)
    case h0 =>
      refine ⟨by simp, ?_⟩
      refine Le.mkR rfl rfl ?_ ?_ ?_ rfl
      · repeat (first | exact SubR.nil | apply SubR.p rfl (by first | rfl | (simp; done) | (congr 3; omega) | (congr 3; simp; omega)) | apply SubR.s rfl rfl rfl | apply SubR.a rfl rfl rfl | apply SubR.t rfl rfl)
      · repeat (first | exact SubR.nil | apply SubR.p rfl (by first | rfl | (simp; done) | (congr 3; omega) | (congr 3; simp; omega)) | apply SubR.s rfl rfl rfl | apply SubR.a rfl rfl rfl | apply SubR.t rfl rfl)
      · repeat (first | exact SubBR.nil | apply SubBR.cons rfl (by first | rfl | (simp only [List.map_append, List.map_replicate, List.map_cons, List.map_nil]; rfl) | (simp; done)))
    case round =>
      rintro ⟨k, d⟩ ⟨g1, g2⟩
      apply W.norm (by repeat (first | exact App.nil | apply App.cons))
      repeat' (first
        | apply RG.nil
        | apply Then.n
        | apply Then.r
        | apply Then.x
        | apply InBlock.n
        | apply InBlock.r
        | apply InBlock.hit
        | (apply InBlock.miss; exact rfl)
        | apply W.seq
        | apply W.region
        | apply W.block
        | apply W.skip
        | apply W.ret
        | apply W.exit
        | (apply U_; (first
    | (apply Q_move; (refine Ev.of rfl ?_; first | exact fun _ => trivial | exact id | exact And.right | exact And.left | exact fun h => h.1.2 | exact fun h => h.1.1))
    | (apply Q_assign; (refine Ev.of rfl ?_; first | exact fun _ => trivial | exact id | exact And.right | exact And.left | exact fun h => h.1.2 | exact fun h => h.1.1))
    | (apply Q_fieldp TYok; (refine Ev.of rfl ?_; first | exact fun _ => trivial | exact id | exact And.right | exact And.left | exact fun h => h.1.2 | exact fun h => h.1.1); exact rfl; exact rfl; exact rfl; exact rfl; exact rfl)
    | (apply Q_field TYok; (refine Ev.of rfl ?_; first | exact fun _ => trivial | exact id | exact And.right | exact And.left | exact fun h => h.1.2 | exact fun h => h.1.1); exact rfl; exact rfl; exact rfl; exact rfl; exact rfl)
    | (apply Q_loadp TYok; exact rfl; exact rfl; (refine Ev.of rfl ?_; first | exact fun _ => trivial | exact id | exact And.right | exact And.left | exact fun h => h.1.2 | exact fun h => h.1.1); exact rfl)
    | (apply Q_load TYok; exact rfl; exact rfl; (refine Ev.of rfl ?_; first | exact fun _ => trivial | exact id | exact And.right | exact And.left | exact fun h => h.1.2 | exact fun h => h.1.1); exact rfl; exact rfl; exact rfl)
    | (apply Q_loadm TYok; exact rfl; exact rfl; (refine Ev.of rfl ?_; first | exact fun _ => trivial | exact id | exact And.right | exact And.left | exact fun h => h.1.2 | exact fun h => h.1.1); exact rfl; infer_instance; (intro hg; first | omega | (simp; omega) | (simp at hg; simp; omega)); exact rfl)
    | (apply Q_loadpa TYok; exact rfl; exact rfl; (refine Ev.of rfl ?_; first | exact fun _ => trivial | exact id | exact And.right | exact And.left | exact fun h => h.1.2 | exact fun h => h.1.1); exact rfl)
    | (apply Q_loada TYok; exact rfl; exact rfl; (refine Ev.of rfl ?_; first | exact fun _ => trivial | exact id | exact And.right | exact And.left | exact fun h => h.1.2 | exact fun h => h.1.1); exact rfl; exact rfl; exact rfl)
    | (apply Q_loadma TYok; exact rfl; exact rfl; (refine Ev.of rfl ?_; first | exact fun _ => trivial | exact id | exact And.right | exact And.left | exact fun h => h.1.2 | exact fun h => h.1.1); exact rfl; infer_instance; (intro hg; first | omega | (simp; omega) | (simp at hg; simp; omega)); exact rfl)
    | (apply Q_add; (refine Ev.of rfl ?_; first | exact fun _ => trivial | exact id | exact And.right | exact And.left | exact fun h => h.1.2 | exact fun h => h.1.1); (refine Ev.of rfl ?_; first | exact fun _ => trivial | exact id | exact And.right | exact And.left | exact fun h => h.1.2 | exact fun h => h.1.1); (first | omega | (constructor <;> omega)))
    | (apply Q_sub; (refine Ev.of rfl ?_; first | exact fun _ => trivial | exact id | exact And.right | exact And.left | exact fun h => h.1.2 | exact fun h => h.1.1); (refine Ev.of rfl ?_; first | exact fun _ => trivial | exact id | exact And.right | exact And.left | exact fun h => h.1.2 | exact fun h => h.1.1); (first | omega | (constructor <;> omega)))
    | (apply Q_mul; (refine Ev.of rfl ?_; first | exact fun _ => trivial | exact id | exact And.right | exact And.left | exact fun h => h.1.2 | exact fun h => h.1.1); (refine Ev.of rfl ?_; first | exact fun _ => trivial | exact id | exact And.right | exact And.left | exact fun h => h.1.2 | exact fun h => h.1.1); (first | omega | (constructor <;> omega)))
    | (apply Q_quoN; (refine Ev.of rfl ?_; first | exact fun _ => trivial | exact id | exact And.right | exact And.left | exact fun h => h.1.2 | exact fun h => h.1.1); (refine Ev.of rfl ?_; first | exact fun _ => trivial | exact id | exact And.right | exact And.left | exact fun h => h.1.2 | exact fun h => h.1.1); (first | omega | (constructor <;> omega)))
    | (apply Q_remN; (refine Ev.of rfl ?_; first | exact fun _ => trivial | exact id | exact And.right | exact And.left | exact fun h => h.1.2 | exact fun h => h.1.1); (refine Ev.of rfl ?_; first | exact fun _ => trivial | exact id | exact And.right | exact And.left | exact fun h => h.1.2 | exact fun h => h.1.1); (first | omega | (constructor <;> omega)))
    | (apply Q_bin; (refine Ev.of rfl ?_; first | exact fun _ => trivial | exact id | exact And.right | exact And.left | exact fun h => h.1.2 | exact fun h => h.1.1); (refine Ev.of rfl ?_; first | exact fun _ => trivial | exact id | exact And.right | exact And.left | exact fun h => h.1.2 | exact fun h => h.1.1); exact rfl)
    | (apply Q_or; (refine Ev.of rfl ?_; first | exact fun _ => trivial | exact id | exact And.right | exact And.left | exact fun h => h.1.2 | exact fun h => h.1.1); (refine Ev.of rfl ?_; first | exact fun _ => trivial | exact id | exact And.right | exact And.left | exact fun h => h.1.2 | exact fun h => h.1.1))
    | (apply Q_and; (refine Ev.of rfl ?_; first | exact fun _ => trivial | exact id | exact And.right | exact And.left | exact fun h => h.1.2 | exact fun h => h.1.1); (refine Ev.of rfl ?_; first | exact fun _ => trivial | exact id | exact And.right | exact And.left | exact fun h => h.1.2 | exact fun h => h.1.1))
    | (apply Q_not; (refine Ev.of rfl ?_; first | exact fun _ => trivial | exact id | exact And.right | exact And.left | exact fun h => h.1.2 | exact fun h => h.1.1))
    | (apply Q_max; (refine Ev.of rfl ?_; first | exact fun _ => trivial | exact id | exact And.right | exact And.left | exact fun h => h.1.2 | exact fun h => h.1.1); (refine Ev.of rfl ?_; first | exact fun _ => trivial | exact id | exact And.right | exact And.left | exact fun h => h.1.2 | exact fun h => h.1.1))
    | (apply Q_min; (refine Ev.of rfl ?_; first | exact fun _ => trivial | exact id | exact And.right | exact And.left | exact fun h => h.1.2 | exact fun h => h.1.1); (refine Ev.of rfl ?_; first | exact fun _ => trivial | exact id | exact And.right | exact And.left | exact fun h => h.1.2 | exact fun h => h.1.1))
    | (apply Q_lenm TYok; (refine Ev.of rfl ?_; first | exact fun _ => trivial | exact id | exact And.right | exact And.left | exact fun h => h.1.2 | exact fun h => h.1.1); exact rfl; exact rfl)
    | (apply Q_lend TYok; (refine Ev.of rfl ?_; first | exact fun _ => trivial | exact id | exact And.right | exact And.left | exact fun h => h.1.2 | exact fun h => h.1.1); exact rfl; exact rfl)
    | (apply Q_lenom TYok; (refine Ev.of rfl ?_; first | exact fun _ => trivial | exact id | exact And.right | exact And.left | exact fun h => h.1.2 | exact fun h => h.1.1); exact rfl; exact rfl; exact rfl)
    | (apply Q_len TYok; (refine Ev.of rfl ?_; first | exact fun _ => trivial | exact id | exact And.right | exact And.left | exact fun h => h.1.2 | exact fun h => h.1.1); exact rfl; exact rfl; exact rfl)
    | (apply Q_len0 TYok; (refine Ev.of rfl ?_; first | exact fun _ => trivial | exact id | exact And.right | exact And.left | exact fun h => h.1.2 | exact fun h => h.1.1); exact rfl; exact rfl)
    | (apply Q_lens TYok; (refine Ev.of rfl ?_; first | exact fun _ => trivial | exact id | exact And.right | exact And.left | exact fun h => h.1.2 | exact fun h => h.1.1); exact rfl; exact rfl)
    | (apply Q_indexd TYok; (refine Ev.of rfl ?_; first | exact fun _ => trivial | exact id | exact And.right | exact And.left | exact fun h => h.1.2 | exact fun h => h.1.1); (refine Ev.of rfl ?_; first | exact fun _ => trivial | exact id | exact And.right | exact And.left | exact fun h => h.1.2 | exact fun h => h.1.1); exact rfl; exact rfl; exact rfl; (intro hg; first | exact getRowN (by first | omega | (simp at hg; omega)) | exact getRowI (by first | omega | (simp at hg; omega))); exact rfl)
    | (apply Q_index TYok; (refine Ev.of rfl ?_; first | exact fun _ => trivial | exact id | exact And.right | exact And.left | exact fun h => h.1.2 | exact fun h => h.1.1); (refine Ev.of rfl ?_; first | exact fun _ => trivial | exact id | exact And.right | exact And.left | exact fun h => h.1.2 | exact fun h => h.1.1); exact rfl; exact rfl; exact rfl; exact rfl; exact rfl; (intro hg; first | (simp; omega) | (simp at hg; simp; omega)))
    | (apply Q_binS; (refine Ev.of rfl ?_; first | exact fun _ => trivial | exact id | exact And.right | exact And.left | exact fun h => h.1.2 | exact fun h => h.1.1); (refine Ev.of rfl ?_; first | exact fun _ => trivial | exact id | exact And.right | exact And.left | exact fun h => h.1.2 | exact fun h => h.1.1); exact rfl)
    | (apply Q_neg; (refine Ev.of rfl ?_; first | exact fun _ => trivial | exact id | exact And.right | exact And.left | exact fun h => h.1.2 | exact fun h => h.1.1); (first | omega | (constructor <;> omega)))
    | (apply Q_extract; (refine Ev.of rfl ?_; first | exact fun _ => trivial | exact id | exact And.right | exact And.left | exact fun h => h.1.2 | exact fun h => h.1.1); exact rfl)
    | (apply Q_convI TYok; exact rfl; exact rfl; exact rfl; exact rfl; (refine Ev.of rfl ?_; first | exact fun _ => trivial | exact id | exact And.right | exact And.left | exact fun h => h.1.2 | exact fun h => h.1.1); (first | omega | (constructor <;> omega)))
    | (apply Q_conv TYok; exact rfl; exact rfl; exact rfl; exact rfl; (refine Ev.of rfl ?_; first | exact fun _ => trivial | exact id | exact And.right | exact And.left | exact fun h => h.1.2 | exact fun h => h.1.1))
    | (apply Q_build TYok; (repeat (first | exact EvP.nil | apply EvP.cons (by refine Ev.of rfl ?_; first | exact fun _ => trivial | exact id | exact And.right | exact And.left | exact fun h => h.1.2 | exact fun h => h.1.1))); exact rfl; exact rfl; exact rfl; exact rfl)); exact rfl)
        | (apply Ug_; exact rfl; exact rfl; (first
    | (apply Q_move; (refine Ev.of rfl ?_; first | exact fun _ => trivial | exact id | exact And.right | exact And.left | exact fun h => h.1.2 | exact fun h => h.1.1))
    | (apply Q_assign; (refine Ev.of rfl ?_; first | exact fun _ => trivial | exact id | exact And.right | exact And.left | exact fun h => h.1.2 | exact fun h => h.1.1))
    | (apply Q_fieldp TYok; (refine Ev.of rfl ?_; first | exact fun _ => trivial | exact id | exact And.right | exact And.left | exact fun h => h.1.2 | exact fun h => h.1.1); exact rfl; exact rfl; exact rfl; exact rfl; exact rfl)
    | (apply Q_field TYok; (refine Ev.of rfl ?_; first | exact fun _ => trivial | exact id | exact And.right | exact And.left | exact fun h => h.1.2 | exact fun h => h.1.1); exact rfl; exact rfl; exact rfl; exact rfl; exact rfl)
    | (apply Q_loadp TYok; exact rfl; exact rfl; (refine Ev.of rfl ?_; first | exact fun _ => trivial | exact id | exact And.right | exact And.left | exact fun h => h.1.2 | exact fun h => h.1.1); exact rfl)
    | (apply Q_load TYok; exact rfl; exact rfl; (refine Ev.of rfl ?_; first | exact fun _ => trivial | exact id | exact And.right | exact And.left | exact fun h => h.1.2 | exact fun h => h.1.1); exact rfl; exact rfl; exact rfl)
    | (apply Q_loadm TYok; exact rfl; exact rfl; (refine Ev.of rfl ?_; first | exact fun _ => trivial | exact id | exact And.right | exact And.left | exact fun h => h.1.2 | exact fun h => h.1.1); exact rfl; infer_instance; (intro hg; first | omega | (simp; omega) | (simp at hg; simp; omega)); exact rfl)
    | (apply Q_loadpa TYok; exact rfl; exact rfl; (refine Ev.of rfl ?_; first | exact fun _ => trivial | exact id | exact And.right | exact And.left | exact fun h => h.1.2 | exact fun h => h.1.1); exact rfl)
    | (apply Q_loada TYok; exact rfl; exact rfl; (refine Ev.of rfl ?_; first | exact fun _ => trivial | exact id | exact And.right | exact And.left | exact fun h => h.1.2 | exact fun h => h.1.1); exact rfl; exact rfl; exact rfl)
    | (apply Q_loadma TYok; exact rfl; exact rfl; (refine Ev.of rfl ?_; first | exact fun _ => trivial | exact id | exact And.right | exact And.left | exact fun h => h.1.2 | exact fun h => h.1.1); exact rfl; infer_instance; (intro hg; first | omega | (simp; omega) | (simp at hg; simp; omega)); exact rfl)
    | (apply Q_add; (refine Ev.of rfl ?_; first | exact fun _ => trivial | exact id | exact And.right | exact And.left | exact fun h => h.1.2 | exact fun h => h.1.1); (refine Ev.of rfl ?_; first | exact fun _ => trivial | exact id | exact And.right | exact And.left | exact fun h => h.1.2 | exact fun h => h.1.1); (first | omega | (constructor <;> omega)))
    | (apply Q_sub; (refine Ev.of rfl ?_; first | exact fun _ => trivial | exact id | exact And.right | exact And.left | exact fun h => h.1.2 | exact fun h => h.1.1); (refine Ev.of rfl ?_; first | exact fun _ => trivial | exact id | exact And.right | exact And.left | exact fun h => h.1.2 | exact fun h => h.1.1); (first | omega | (constructor <;> omega)))
    | (apply Q_mul; (refine Ev.of rfl ?_; first | exact fun _ => trivial | exact id | exact And.right | exact And.left | exact fun h => h.1.2 | exact fun h => h.1.1); (refine Ev.of rfl ?_; first | exact fun _ => trivial | exact id | exact And.right | exact And.left | exact fun h => h.1.2 | exact fun h => h.1.1); (first | omega | (constructor <;> omega)))
    | (apply Q_quoN; (refine Ev.of rfl ?_; first | exact fun _ => trivial | exact id | exact And.right | exact And.left | exact fun h => h.1.2 | exact fun h => h.1.1); (refine Ev.of rfl ?_; first | exact fun _ => trivial | exact id | exact And.right | exact And.left | exact fun h => h.1.2 | exact fun h => h.1.1); (first | omega | (constructor <;> omega)))
    | (apply Q_remN; (refine Ev.of rfl ?_; first | exact fun _ => trivial | exact id | exact And.right | exact And.left | exact fun h => h.1.2 | exact fun h => h.1.1); (refine Ev.of rfl ?_; first | exact fun _ => trivial | exact id | exact And.right | exact And.left | exact fun h => h.1.2 | exact fun h => h.1.1); (first | omega | (constructor <;> omega)))
    | (apply Q_bin; (refine Ev.of rfl ?_; first | exact fun _ => trivial | exact id | exact And.right | exact And.left | exact fun h => h.1.2 | exact fun h => h.1.1); (refine Ev.of rfl ?_; first | exact fun _ => trivial | exact id | exact And.right | exact And.left | exact fun h => h.1.2 | exact fun h => h.1.1); exact rfl)
    | (apply Q_or; (refine Ev.of rfl ?_; first | exact fun _ => trivial | exact id | exact And.right | exact And.left | exact fun h => h.1.2 | exact fun h => h.1.1); (refine Ev.of rfl ?_; first | exact fun _ => trivial | exact id | exact And.right | exact And.left | exact fun h => h.1.2 | exact fun h => h.1.1))
    | (apply Q_and; (refine Ev.of rfl ?_; first | exact fun _ => trivial | exact id | exact And.right | exact And.left | exact fun h => h.1.2 | exact fun h => h.1.1); (refine Ev.of rfl ?_; first | exact fun _ => trivial | exact id | exact And.right | exact And.left | exact fun h => h.1.2 | exact fun h => h.1.1))
    | (apply Q_not; (refine Ev.of rfl ?_; first | exact fun _ => trivial | exact id | exact And.right | exact And.left | exact fun h => h.1.2 | exact fun h => h.1.1))
    | (apply Q_max; (refine Ev.of rfl ?_; first | exact fun _ => trivial | exact id | exact And.right | exact And.left | exact fun h => h.1.2 | exact fun h => h.1.1); (refine Ev.of rfl ?_; first | exact fun _ => trivial | exact id | exact And.right | exact And.left | exact fun h => h.1.2 | exact fun h => h.1.1))
    | (apply Q_min; (refine Ev.of rfl ?_; first | exact fun _ => trivial | exact id | exact And.right | exact And.left | exact fun h => h.1.2 | exact fun h => h.1.1); (refine Ev.of rfl ?_; first | exact fun _ => trivial | exact id | exact And.right | exact And.left | exact fun h => h.1.2 | exact fun h => h.1.1))
    | (apply Q_lenm TYok; (refine Ev.of rfl ?_; first | exact fun _ => trivial | exact id | exact And.right | exact And.left | exact fun h => h.1.2 | exact fun h => h.1.1); exact rfl; exact rfl)
    | (apply Q_lend TYok; (refine Ev.of rfl ?_; first | exact fun _ => trivial | exact id | exact And.right | exact And.left | exact fun h => h.1.2 | exact fun h => h.1.1); exact rfl; exact rfl)
    | (apply Q_lenom TYok; (refine Ev.of rfl ?_; first | exact fun _ => trivial | exact id | exact And.right | exact And.left | exact fun h => h.1.2 | exact fun h => h.1.1); exact rfl; exact rfl; exact rfl)
    | (apply Q_len TYok; (refine Ev.of rfl ?_; first | exact fun _ => trivial | exact id | exact And.right | exact And.left | exact fun h => h.1.2 | exact fun h => h.1.1); exact rfl; exact rfl; exact rfl)
    | (apply Q_len0 TYok; (refine Ev.of rfl ?_; first | exact fun _ => trivial | exact id | exact And.right | exact And.left | exact fun h => h.1.2 | exact fun h => h.1.1); exact rfl; exact rfl)
    | (apply Q_lens TYok; (refine Ev.of rfl ?_; first | exact fun _ => trivial | exact id | exact And.right | exact And.left | exact fun h => h.1.2 | exact fun h => h.1.1); exact rfl; exact rfl)
    | (apply Q_indexd TYok; (refine Ev.of rfl ?_; first | exact fun _ => trivial | exact id | exact And.right | exact And.left | exact fun h => h.1.2 | exact fun h => h.1.1); (refine Ev.of rfl ?_; first | exact fun _ => trivial | exact id | exact And.right | exact And.left | exact fun h => h.1.2 | exact fun h => h.1.1); exact rfl; exact rfl; exact rfl; (intro hg; first | exact getRowN (by first | omega | (simp at hg; omega)) | exact getRowI (by first | omega | (simp at hg; omega))); exact rfl)
    | (apply Q_index TYok; (refine Ev.of rfl ?_; first | exact fun _ => trivial | exact id | exact And.right | exact And.left | exact fun h => h.1.2 | exact fun h => h.1.1); (refine Ev.of rfl ?_; first | exact fun _ => trivial | exact id | exact And.right | exact And.left | exact fun h => h.1.2 | exact fun h => h.1.1); exact rfl; exact rfl; exact rfl; exact rfl; exact rfl; (intro hg; first | (simp; omega) | (simp at hg; simp; omega)))
    | (apply Q_binS; (refine Ev.of rfl ?_; first | exact fun _ => trivial | exact id | exact And.right | exact And.left | exact fun h => h.1.2 | exact fun h => h.1.1); (refine Ev.of rfl ?_; first | exact fun _ => trivial | exact id | exact And.right | exact And.left | exact fun h => h.1.2 | exact fun h => h.1.1); exact rfl)
    | (apply Q_neg; (refine Ev.of rfl ?_; first | exact fun _ => trivial | exact id | exact And.right | exact And.left | exact fun h => h.1.2 | exact fun h => h.1.1); (first | omega | (constructor <;> omega)))
    | (apply Q_extract; (refine Ev.of rfl ?_; first | exact fun _ => trivial | exact id | exact And.right | exact And.left | exact fun h => h.1.2 | exact fun h => h.1.1); exact rfl)
    | (apply Q_convI TYok; exact rfl; exact rfl; exact rfl; exact rfl; (refine Ev.of rfl ?_; first | exact fun _ => trivial | exact id | exact And.right | exact And.left | exact fun h => h.1.2 | exact fun h => h.1.1); (first | omega | (constructor <;> omega)))
    | (apply Q_conv TYok; exact rfl; exact rfl; exact rfl; exact rfl; (refine Ev.of rfl ?_; first | exact fun _ => trivial | exact id | exact And.right | exact And.left | exact fun h => h.1.2 | exact fun h => h.1.1))
    | (apply Q_build TYok; (repeat (first | exact EvP.nil | apply EvP.cons (by refine Ev.of rfl ?_; first | exact fun _ => trivial | exact id | exact And.right | exact And.left | exact fun h => h.1.2 | exact fun h => h.1.1))); exact rfl; exact rfl; exact rfl; exact rfl)); exact rfl)
        | (apply S_alloc TYok; exact rfl; exact rfl; exact rfl; exact rfl)
        | (apply S_store TYok; (refine Ev.of rfl ?_; first | exact fun _ => trivial | exact id | exact And.right | exact And.left | exact fun h => h.1.2 | exact fun h => h.1.1); (refine Ev.of rfl ?_; first | exact fun _ => trivial | exact id | exact And.right | exact And.left | exact fun h => h.1.2 | exact fun h => h.1.1); exact rfl; exact rfl; exact rfl; exact rfl; exact rfl)
        | (apply S_storem TYok; (refine Ev.of rfl ?_; first | exact fun _ => trivial | exact id | exact And.right | exact And.left | exact fun h => h.1.2 | exact fun h => h.1.1); (refine Ev.of rfl ?_; first | exact fun _ => trivial | exact id | exact And.right | exact And.left | exact fun h => h.1.2 | exact fun h => h.1.1); exact rfl; exact rfl; (first | omega | (simp; omega)); exact rfl; (intro z; exact rfl))
        | (apply S_lit TYok; (repeat (first | exact EvR.nil | apply EvR.cons (by refine Ev.of rfl ?_; first | exact fun _ => trivial | exact id | exact And.right | exact And.left | exact fun h => h.1.2 | exact fun h => h.1.1))); exact rfl; exact rfl; exact rfl; exact rfl; exact rfl; exact rfl; exact rfl; exact rfl; exact rfl)
        | (apply S_make TYok; (refine Ev.of rfl ?_; first | exact fun _ => trivial | exact id | exact And.right | exact And.left | exact fun h => h.1.2 | exact fun h => h.1.1); (refine Ev.of rfl ?_; first | exact fun _ => trivial | exact id | exact And.right | exact And.left | exact fun h => h.1.2 | exact fun h => h.1.1); exact rfl; exact rfl; exact rfl; exact rfl; (refine ⟨by omega, by omega, by simp; omega, by omega⟩); exact rfl; exact rfl)
        | (apply S_append TYok; (refine Ev.of rfl ?_; first | exact fun _ => trivial | exact id | exact And.right | exact And.left | exact fun h => h.1.2 | exact fun h => h.1.1); (refine Ev.of rfl ?_; first | exact fun _ => trivial | exact id | exact And.right | exact And.left | exact fun h => h.1.2 | exact fun h => h.1.1); exact rfl; exact rfl; exact rfl; exact rfl; exact rfl; exact rfl; exact rfl; exact rfl; exact rfl; exact rfl; (constructor <;> simp <;> omega); exact rfl)
        | (apply S_append0 TYok; (refine Ev.of rfl ?_; first | exact fun _ => trivial | exact id | exact And.right | exact And.left | exact fun h => h.1.2 | exact fun h => h.1.1); (refine Ev.of rfl ?_; first | exact fun _ => trivial | exact id | exact And.right | exact And.left | exact fun h => h.1.2 | exact fun h => h.1.1); exact rfl; exact rfl; exact rfl; exact rfl; exact rfl; exact rfl; exact rfl; (constructor <;> simp <;> omega); exact rfl; exact rfl)
        | (apply S_box; (refine Ev.of rfl ?_; first | exact fun _ => trivial | exact id | exact And.right | exact And.left | exact fun h => h.1.2 | exact fun h => h.1.1); exact rfl; exact rfl)
        | (refine W.cond (by refine Ev.of rfl ?_; first | exact fun _ => trivial | exact id | exact And.right | exact And.left | exact fun h => h.1.2 | exact fun h => h.1.1) (fun hb => ?_) (fun hb => ?_) <;> (try simp at hb) <;> (try (exfalso; omega))))
      · have e : rightF us vs = false := by
          rw [rightF, g2, vsOk_drop ‹_›]
          rcases hb with ((h | h) | h) | h
          · simp [show ¬ (0 ≤ (nth vs k).seat) by omega]
          · simp [show ¬ ((nth vs k).seat < us.length) by omega]
          · simp [show ¬ (d ≤ (nth vs k).day) by omega]
          · simp [show ¬ ((nth vs k).day ≤ 200000) by omega]
        rw [e]
        exact Fin.ret (by repeat (first | exact ResL.nil | refine ResL.cons rfl rfl (by first | exact PSub.rfl' | exact PSub.nil' | (refine PSub.of_eq ?_; simp; done)) ?_))
      · refine ⟨(k + 1, (nth vs k).day), ⟨by omega, ?_⟩, ?_, ?_⟩
        · rw [g2, vsOk_drop ‹_›]
          simp [hb]
        · refine Le.mkR rfl rfl ?_ ?_ ?_ rfl
          · repeat (first | exact SubR.nil | apply SubR.p rfl (by first | rfl | (simp; done) | (congr 3; omega) | (congr 3; simp; omega)) | apply SubR.s rfl rfl rfl | apply SubR.a rfl rfl rfl | apply SubR.t rfl rfl)
          · repeat (first | exact SubR.nil | apply SubR.p rfl (by first | rfl | (simp; done) | (congr 3; omega) | (congr 3; simp; omega)) | apply SubR.s rfl rfl rfl | apply SubR.a rfl rfl rfl | apply SubR.t rfl rfl)
          · repeat (first | exact SubBR.nil | apply SubBR.cons rfl (by first | rfl | (simp only [List.map_append, List.map_replicate, List.map_cons, List.map_nil]; rfl) | (simp; done)))
        · simp only; omega
      · obtain rfl : k = vs.length := by omega
        have e : rightF us vs = (decide ((us.length : Int) ≤ 20000) && decide (s ≤ 1000000000) && decide ((vs.length : Int) ≤ 2000)) := by
          rw [rightF, g2, h4, ← h5]; simp [usOk, vsOk]
        rw [e]
        exact Fin.ret (by repeat (first | exact ResL.nil | refine ResL.cons rfl rfl (by first | exact PSub.rfl' | exact PSub.nil' | (refine PSub.of_eq ?_; simp; done)) ?_))
end Go.Proofs.Ytanhmeedgophcaa
