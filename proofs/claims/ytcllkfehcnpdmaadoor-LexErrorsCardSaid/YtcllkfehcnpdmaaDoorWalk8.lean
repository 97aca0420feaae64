/-
  The reference's text of tokens; the small examples.
-/
import Derived.Test.YtcllkfehcnpdmaaDoorWalk7
set_option linter.unusedVariables false
set_option linter.unusedSimpArgs false
set_option maxHeartbeats 8000000
namespace Go.Proofs.YtcllkfehcnpdmaaDoor
open Lf Go LexSpec
attribute [local irreducible] PureOp EffOp Ev RG W Then InBlock Lf.Fin nth App InitE Pick SubE SubF SubG EvL EvD EvP EvR ResL Lf.Lex SubR SubBR RA RAll EvC FinO FinM ResM

theorem rtext_ok (l : List Token) (hl : l.length ≤ 1000000) (ht : (textF l).length ≤ 140737488355328) : ACalls Tryd.prog 19 [slT l] (.pv (cS (textF l))) := by
  refine ACalls.of_W (qs := [cS (textF l)]) [2] 30 Tryd.func19 (by kernel_rfl) rfl rfl rfl fun G => ?_
  apply W.init (by repeat (first | exact InitE.nil | apply InitE.c0 | apply InitE.c1 | apply InitE.c2 | apply InitE.c3 | apply InitE.c4 | apply InitE.c5 | apply InitE.c6 | apply InitE.c7 | apply InitE.c8 | apply InitE.c9 | apply InitE.c10 | apply InitE.c11))
  repeat' (first
    | apply RG.nil
    | apply Lex.nil
    | apply Then.n
    | apply Then.r
    | apply Then.x
    | apply InBlock.n
    | apply InBlock.r
    | apply InBlock.hit
    | (apply InBlock.miss; exact rfl)
    | apply W.seq
    | apply W.region
    | apply W.block
    | apply W.skip
    | apply W.ret
    | apply W.exit
    | ((first | apply U_); (first
    | (apply Q_move; (refine Ev.of rfl ?_; first | exact fun _ => ⟨⟩ | exact id | exact And.right | exact And.left | exact (·.1.2) | exact (·.1.1) | exact (·.1.1.1) | exact (·.1.1.2)))
    | (apply Q_assign; (refine Ev.of rfl ?_; first | exact fun _ => ⟨⟩ | exact id | exact And.right | exact And.left | exact (·.1.2) | exact (·.1.1) | exact (·.1.1.1) | exact (·.1.1.2)))
    | (apply Q_fieldp TYok; (refine Ev.of rfl ?_; first | exact fun _ => ⟨⟩ | exact id | exact And.right | exact And.left | exact (·.1.2) | exact (·.1.1) | exact (·.1.1.1) | exact (·.1.1.2)); exact rfl; exact rfl; exact rfl; exact rfl; exact rfl)
    | (apply Q_field TYok; (refine Ev.of rfl ?_; first | exact fun _ => ⟨⟩ | exact id | exact And.right | exact And.left | exact (·.1.2) | exact (·.1.1) | exact (·.1.1.1) | exact (·.1.1.2)); exact rfl; exact rfl; exact rfl; exact rfl; exact rfl)
    | (apply Q_loadp TYok; exact rfl; exact rfl; (refine Ev.of rfl ?_; first | exact fun _ => ⟨⟩ | exact id | exact And.right | exact And.left | exact (·.1.2) | exact (·.1.1) | exact (·.1.1.1) | exact (·.1.1.2)); exact rfl)
    | (apply Q_load TYok; exact rfl; exact rfl; (refine Ev.of rfl ?_; first | exact fun _ => ⟨⟩ | exact id | exact And.right | exact And.left | exact (·.1.2) | exact (·.1.1) | exact (·.1.1.1) | exact (·.1.1.2)); exact rfl; exact rfl; exact rfl)
    | (apply Q_loadm TYok; exact rfl; exact rfl; (refine Ev.of rfl ?_; first | exact fun _ => ⟨⟩ | exact id | exact And.right | exact And.left | exact (·.1.2) | exact (·.1.1) | exact (·.1.1.1) | exact (·.1.1.2)); exact rfl; (intro hg; first | omega | (simp; omega) | (simp at hg; simp; omega)); exact rfl; infer_instance)
    | (apply Q_loadpa TYok; exact rfl; exact rfl; (refine Ev.of rfl ?_; first | exact fun _ => ⟨⟩ | exact id | exact And.right | exact And.left | exact (·.1.2) | exact (·.1.1) | exact (·.1.1.1) | exact (·.1.1.2)); exact rfl)
    | (apply Q_loada TYok; exact rfl; exact rfl; (refine Ev.of rfl ?_; first | exact fun _ => ⟨⟩ | exact id | exact And.right | exact And.left | exact (·.1.2) | exact (·.1.1) | exact (·.1.1.1) | exact (·.1.1.2)); exact rfl; exact rfl; exact rfl)
    | (apply Q_loadma TYok; exact rfl; exact rfl; (refine Ev.of rfl ?_; first | exact fun _ => ⟨⟩ | exact id | exact And.right | exact And.left | exact (·.1.2) | exact (·.1.1) | exact (·.1.1.1) | exact (·.1.1.2)); exact rfl; (intro hg; first | omega | (simp; omega) | (simp at hg; simp; omega)); exact rfl; infer_instance)
    | (apply Q_add; (refine Ev.of rfl ?_; first | exact fun _ => ⟨⟩ | exact id | exact And.right | exact And.left | exact (·.1.2) | exact (·.1.1) | exact (·.1.1.1) | exact (·.1.1.2)); (refine Ev.of rfl ?_; first | exact fun _ => ⟨⟩ | exact id | exact And.right | exact And.left | exact (·.1.2) | exact (·.1.1) | exact (·.1.1.1) | exact (·.1.1.2)); (first | omega | (constructor <;> omega)))
    | (apply Q_add8; (refine Ev.of rfl ?_; first | exact fun _ => ⟨⟩ | exact id | exact And.right | exact And.left | exact (·.1.2) | exact (·.1.1) | exact (·.1.1.1) | exact (·.1.1.2)); (refine Ev.of rfl ?_; first | exact fun _ => ⟨⟩ | exact id | exact And.right | exact And.left | exact (·.1.2) | exact (·.1.1) | exact (·.1.1.1) | exact (·.1.1.2)); (first | omega | (constructor <;> omega)))
    | (apply Q_bin; (refine Ev.of rfl ?_; first | exact fun _ => ⟨⟩ | exact id | exact And.right | exact And.left | exact (·.1.2) | exact (·.1.1) | exact (·.1.1.1) | exact (·.1.1.2)); (refine Ev.of rfl ?_; first | exact fun _ => ⟨⟩ | exact id | exact And.right | exact And.left | exact (·.1.2) | exact (·.1.1) | exact (·.1.1.1) | exact (·.1.1.2)); exact rfl)
    | (apply Q_not; (refine Ev.of rfl ?_; first | exact fun _ => ⟨⟩ | exact id | exact And.right | exact And.left | exact (·.1.2) | exact (·.1.1) | exact (·.1.1.1) | exact (·.1.1.2)))
    | (apply Q_lenm TYok; (refine Ev.of rfl ?_; first | exact fun _ => ⟨⟩ | exact id | exact And.right | exact And.left | exact (·.1.2) | exact (·.1.1) | exact (·.1.1.1) | exact (·.1.1.2)); exact rfl; exact rfl)
    | (apply Q_lend TYok; (refine Ev.of rfl ?_; first | exact fun _ => ⟨⟩ | exact id | exact And.right | exact And.left | exact (·.1.2) | exact (·.1.1) | exact (·.1.1.1) | exact (·.1.1.2)); exact rfl; exact rfl)
    | (apply Q_lenom TYok; (refine Ev.of rfl ?_; first | exact fun _ => ⟨⟩ | exact id | exact And.right | exact And.left | exact (·.1.2) | exact (·.1.1) | exact (·.1.1.1) | exact (·.1.1.2)); exact rfl; exact rfl; exact rfl)
    | (apply Q_len TYok; (refine Ev.of rfl ?_; first | exact fun _ => ⟨⟩ | exact id | exact And.right | exact And.left | exact (·.1.2) | exact (·.1.1) | exact (·.1.1.1) | exact (·.1.1.2)); exact rfl; exact rfl; exact rfl)
    | (apply Q_len0 TYok; (refine Ev.of rfl ?_; first | exact fun _ => ⟨⟩ | exact id | exact And.right | exact And.left | exact (·.1.2) | exact (·.1.1) | exact (·.1.1.1) | exact (·.1.1.2)); exact rfl; exact rfl)
    | (apply Q_lens TYok; (refine Ev.of rfl ?_; first | exact fun _ => ⟨⟩ | exact id | exact And.right | exact And.left | exact (·.1.2) | exact (·.1.1) | exact (·.1.1.1) | exact (·.1.1.2)); exact rfl; exact rfl)
    | (apply Q_indexd TYok; (refine Ev.of rfl ?_; first | exact fun _ => ⟨⟩ | exact id | exact And.right | exact And.left | exact (·.1.2) | exact (·.1.1) | exact (·.1.1.1) | exact (·.1.1.2)); (refine Ev.of rfl ?_; first | exact fun _ => ⟨⟩ | exact id | exact And.right | exact And.left | exact (·.1.2) | exact (·.1.1) | exact (·.1.1.1) | exact (·.1.1.2)); exact rfl; exact rfl; exact rfl; (intro hg; first | exact getRowN (by first | omega | (simp at hg; omega)) | exact getRowI (by first | omega | (simp at hg; omega))); exact rfl)
    | (apply Q_index TYok; (refine Ev.of rfl ?_; first | exact fun _ => ⟨⟩ | exact id | exact And.right | exact And.left | exact (·.1.2) | exact (·.1.1) | exact (·.1.1.1) | exact (·.1.1.2)); (refine Ev.of rfl ?_; first | exact fun _ => ⟨⟩ | exact id | exact And.right | exact And.left | exact (·.1.2) | exact (·.1.1) | exact (·.1.1.1) | exact (·.1.1.2)); exact rfl; exact rfl; exact rfl; exact rfl; exact rfl; (intro hg; first | (simp; omega) | (simp at hg; simp; omega)))
    | (apply Q_binS; (refine Ev.of rfl ?_; first | exact fun _ => ⟨⟩ | exact id | exact And.right | exact And.left | exact (·.1.2) | exact (·.1.1) | exact (·.1.1.1) | exact (·.1.1.2)); (refine Ev.of rfl ?_; first | exact fun _ => ⟨⟩ | exact id | exact And.right | exact And.left | exact (·.1.2) | exact (·.1.1) | exact (·.1.1.1) | exact (·.1.1.2)); exact rfl)
    | (apply Q_binB TYok; (refine Ev.of rfl ?_; first | exact fun _ => ⟨⟩ | exact id | exact And.right | exact And.left | exact (·.1.2) | exact (·.1.1) | exact (·.1.1.1) | exact (·.1.1.2)); (refine Ev.of rfl ?_; first | exact fun _ => ⟨⟩ | exact id | exact And.right | exact And.left | exact (·.1.2) | exact (·.1.1) | exact (·.1.1.1) | exact (·.1.1.2)); exact rfl; exact rfl; exact rfl)
    | (apply Q_cat; (refine Ev.of rfl ?_; first | exact fun _ => ⟨⟩ | exact id | exact And.right | exact And.left | exact (·.1.2) | exact (·.1.1) | exact (·.1.1.1) | exact (·.1.1.2)); (refine Ev.of rfl ?_; first | exact fun _ => ⟨⟩ | exact id | exact And.right | exact And.left | exact (·.1.2) | exact (·.1.1) | exact (·.1.1.1) | exact (·.1.1.2)); (intro hg; first | omega | (simp; omega) | (simp at hg ⊢; omega)))); exact rfl)
    | (apply S_isnil TYok; exact rfl; exact rfl; exact rfl; (refine Ev.of rfl ?_; first | exact fun _ => ⟨⟩ | exact id | exact And.right | exact And.left | exact (·.1.2) | exact (·.1.1) | exact (·.1.1.1) | exact (·.1.1.2)); intro bn hnil)
    | (refine W.cond (by refine Ev.of rfl ?_; first | exact fun _ => ⟨⟩ | exact id | exact And.right | exact And.left | exact (·.1.2) | exact (·.1.1) | exact (·.1.1.1) | exact (·.1.1.2)) (fun hb => ?_) (fun hb => ?_) <;> (try simp at hb) <;> (try (exfalso; omega))))
  apply W.loopP (σ := Nat) 30 [0] (fun k => k ≤ l.length) (fun k => [(3, (True, .pv (cS (joinT (ft (l.take k)))))), (4, vB (decide (ft (l.take k) = []))), (5, vI k)]) (fun _ => []) (fun k => l.length - k) (0)
  case hp => repeat (first | exact Pick.nil | apply Pick.cons rfl)
  case h0 =>
    refine ⟨by simp, ?_⟩
    refine Le.mkR rfl rfl ?_ ?_ ?_ rfl
    · repeat (first | exact SubR.nil | apply SubR.p rfl (by first | rfl | (simp; done) | (congr 3; omega) | (congr 3; simp; omega)) | apply SubR.s rfl rfl rfl | apply SubR.a rfl rfl rfl | apply SubR.t rfl rfl | apply SubR.m rfl rfl rfl | apply SubR.i rfl rfl rfl rfl rfl)
    · repeat (first | exact SubR.nil | apply SubR.p rfl (by first | rfl | (simp; done) | (congr 3; omega) | (congr 3; simp; omega)) | apply SubR.s rfl rfl rfl | apply SubR.a rfl rfl rfl | apply SubR.t rfl rfl | apply SubR.m rfl rfl rfl | apply SubR.i rfl rfl rfl rfl rfl)
    · repeat (first | exact SubBR.nil | apply SubBR.cons rfl (by first | rfl | (simp only [List.map_append, List.map_replicate, List.map_cons, List.map_nil]; rfl) | (simp only [List.map_append, List.map_cons, List.map_nil, List.append_assoc, List.cons_append, List.nil_append]; rfl) | (simp; done)))
  case round =>
    rintro k h1
    apply W.norm (by repeat (first | exact App.nil | apply App.cons))
    by_cases hk : k < l.length
    · have hft := ft_take hk
      have hle1 := ft_le l k
      have hle2 := ft_le l (k + 1)
      by_cases hn : (nth l k).kind = 3
      · rw [if_pos hn] at hft
        repeat' (first
          | apply RG.nil
          | apply Lex.nil
          | apply Then.n
          | apply Then.r
          | apply Then.x
          | apply InBlock.n
          | apply InBlock.r
          | apply InBlock.hit
          | (apply InBlock.miss; exact rfl)
          | apply W.seq
          | apply W.region
          | apply W.block
          | apply W.skip
          | apply W.ret
          | apply W.exit
          | ((first | apply U_); (first
    | (apply Q_move; (refine Ev.of rfl ?_; first | exact fun _ => ⟨⟩ | exact id | exact And.right | exact And.left | exact (·.1.2) | exact (·.1.1) | exact (·.1.1.1) | exact (·.1.1.2)))
    | (apply Q_assign; (refine Ev.of rfl ?_; first | exact fun _ => ⟨⟩ | exact id | exact And.right | exact And.left | exact (·.1.2) | exact (·.1.1) | exact (·.1.1.1) | exact (·.1.1.2)))
    | (apply Q_fieldp TYok; (refine Ev.of rfl ?_; first | exact fun _ => ⟨⟩ | exact id | exact And.right | exact And.left | exact (·.1.2) | exact (·.1.1) | exact (·.1.1.1) | exact (·.1.1.2)); exact rfl; exact rfl; exact rfl; exact rfl; exact rfl)
    | (apply Q_field TYok; (refine Ev.of rfl ?_; first | exact fun _ => ⟨⟩ | exact id | exact And.right | exact And.left | exact (·.1.2) | exact (·.1.1) | exact (·.1.1.1) | exact (·.1.1.2)); exact rfl; exact rfl; exact rfl; exact rfl; exact rfl)
    | (apply Q_loadp TYok; exact rfl; exact rfl; (refine Ev.of rfl ?_; first | exact fun _ => ⟨⟩ | exact id | exact And.right | exact And.left | exact (·.1.2) | exact (·.1.1) | exact (·.1.1.1) | exact (·.1.1.2)); exact rfl)
    | (apply Q_load TYok; exact rfl; exact rfl; (refine Ev.of rfl ?_; first | exact fun _ => ⟨⟩ | exact id | exact And.right | exact And.left | exact (·.1.2) | exact (·.1.1) | exact (·.1.1.1) | exact (·.1.1.2)); exact rfl; exact rfl; exact rfl)
    | (apply Q_loadm TYok; exact rfl; exact rfl; (refine Ev.of rfl ?_; first | exact fun _ => ⟨⟩ | exact id | exact And.right | exact And.left | exact (·.1.2) | exact (·.1.1) | exact (·.1.1.1) | exact (·.1.1.2)); exact rfl; (intro hg; first | omega | (simp; omega) | (simp at hg; simp; omega)); exact rfl; infer_instance)
    | (apply Q_loadpa TYok; exact rfl; exact rfl; (refine Ev.of rfl ?_; first | exact fun _ => ⟨⟩ | exact id | exact And.right | exact And.left | exact (·.1.2) | exact (·.1.1) | exact (·.1.1.1) | exact (·.1.1.2)); exact rfl)
    | (apply Q_loada TYok; exact rfl; exact rfl; (refine Ev.of rfl ?_; first | exact fun _ => ⟨⟩ | exact id | exact And.right | exact And.left | exact (·.1.2) | exact (·.1.1) | exact (·.1.1.1) | exact (·.1.1.2)); exact rfl; exact rfl; exact rfl)
    | (apply Q_loadma TYok; exact rfl; exact rfl; (refine Ev.of rfl ?_; first | exact fun _ => ⟨⟩ | exact id | exact And.right | exact And.left | exact (·.1.2) | exact (·.1.1) | exact (·.1.1.1) | exact (·.1.1.2)); exact rfl; (intro hg; first | omega | (simp; omega) | (simp at hg; simp; omega)); exact rfl; infer_instance)
    | (apply Q_add; (refine Ev.of rfl ?_; first | exact fun _ => ⟨⟩ | exact id | exact And.right | exact And.left | exact (·.1.2) | exact (·.1.1) | exact (·.1.1.1) | exact (·.1.1.2)); (refine Ev.of rfl ?_; first | exact fun _ => ⟨⟩ | exact id | exact And.right | exact And.left | exact (·.1.2) | exact (·.1.1) | exact (·.1.1.1) | exact (·.1.1.2)); (first | omega | (constructor <;> omega)))
    | (apply Q_add8; (refine Ev.of rfl ?_; first | exact fun _ => ⟨⟩ | exact id | exact And.right | exact And.left | exact (·.1.2) | exact (·.1.1) | exact (·.1.1.1) | exact (·.1.1.2)); (refine Ev.of rfl ?_; first | exact fun _ => ⟨⟩ | exact id | exact And.right | exact And.left | exact (·.1.2) | exact (·.1.1) | exact (·.1.1.1) | exact (·.1.1.2)); (first | omega | (constructor <;> omega)))
    | (apply Q_bin; (refine Ev.of rfl ?_; first | exact fun _ => ⟨⟩ | exact id | exact And.right | exact And.left | exact (·.1.2) | exact (·.1.1) | exact (·.1.1.1) | exact (·.1.1.2)); (refine Ev.of rfl ?_; first | exact fun _ => ⟨⟩ | exact id | exact And.right | exact And.left | exact (·.1.2) | exact (·.1.1) | exact (·.1.1.1) | exact (·.1.1.2)); exact rfl)
    | (apply Q_not; (refine Ev.of rfl ?_; first | exact fun _ => ⟨⟩ | exact id | exact And.right | exact And.left | exact (·.1.2) | exact (·.1.1) | exact (·.1.1.1) | exact (·.1.1.2)))
    | (apply Q_lenm TYok; (refine Ev.of rfl ?_; first | exact fun _ => ⟨⟩ | exact id | exact And.right | exact And.left | exact (·.1.2) | exact (·.1.1) | exact (·.1.1.1) | exact (·.1.1.2)); exact rfl; exact rfl)
    | (apply Q_lend TYok; (refine Ev.of rfl ?_; first | exact fun _ => ⟨⟩ | exact id | exact And.right | exact And.left | exact (·.1.2) | exact (·.1.1) | exact (·.1.1.1) | exact (·.1.1.2)); exact rfl; exact rfl)
    | (apply Q_lenom TYok; (refine Ev.of rfl ?_; first | exact fun _ => ⟨⟩ | exact id | exact And.right | exact And.left | exact (·.1.2) | exact (·.1.1) | exact (·.1.1.1) | exact (·.1.1.2)); exact rfl; exact rfl; exact rfl)
    | (apply Q_len TYok; (refine Ev.of rfl ?_; first | exact fun _ => ⟨⟩ | exact id | exact And.right | exact And.left | exact (·.1.2) | exact (·.1.1) | exact (·.1.1.1) | exact (·.1.1.2)); exact rfl; exact rfl; exact rfl)
    | (apply Q_len0 TYok; (refine Ev.of rfl ?_; first | exact fun _ => ⟨⟩ | exact id | exact And.right | exact And.left | exact (·.1.2) | exact (·.1.1) | exact (·.1.1.1) | exact (·.1.1.2)); exact rfl; exact rfl)
    | (apply Q_lens TYok; (refine Ev.of rfl ?_; first | exact fun _ => ⟨⟩ | exact id | exact And.right | exact And.left | exact (·.1.2) | exact (·.1.1) | exact (·.1.1.1) | exact (·.1.1.2)); exact rfl; exact rfl)
    | (apply Q_indexd TYok; (refine Ev.of rfl ?_; first | exact fun _ => ⟨⟩ | exact id | exact And.right | exact And.left | exact (·.1.2) | exact (·.1.1) | exact (·.1.1.1) | exact (·.1.1.2)); (refine Ev.of rfl ?_; first | exact fun _ => ⟨⟩ | exact id | exact And.right | exact And.left | exact (·.1.2) | exact (·.1.1) | exact (·.1.1.1) | exact (·.1.1.2)); exact rfl; exact rfl; exact rfl; (intro hg; first | exact getRowN (by first | omega | (simp at hg; omega)) | exact getRowI (by first | omega | (simp at hg; omega))); exact rfl)
    | (apply Q_index TYok; (refine Ev.of rfl ?_; first | exact fun _ => ⟨⟩ | exact id | exact And.right | exact And.left | exact (·.1.2) | exact (·.1.1) | exact (·.1.1.1) | exact (·.1.1.2)); (refine Ev.of rfl ?_; first | exact fun _ => ⟨⟩ | exact id | exact And.right | exact And.left | exact (·.1.2) | exact (·.1.1) | exact (·.1.1.1) | exact (·.1.1.2)); exact rfl; exact rfl; exact rfl; exact rfl; exact rfl; (intro hg; first | (simp; omega) | (simp at hg; simp; omega)))
    | (apply Q_binS; (refine Ev.of rfl ?_; first | exact fun _ => ⟨⟩ | exact id | exact And.right | exact And.left | exact (·.1.2) | exact (·.1.1) | exact (·.1.1.1) | exact (·.1.1.2)); (refine Ev.of rfl ?_; first | exact fun _ => ⟨⟩ | exact id | exact And.right | exact And.left | exact (·.1.2) | exact (·.1.1) | exact (·.1.1.1) | exact (·.1.1.2)); exact rfl)
    | (apply Q_binB TYok; (refine Ev.of rfl ?_; first | exact fun _ => ⟨⟩ | exact id | exact And.right | exact And.left | exact (·.1.2) | exact (·.1.1) | exact (·.1.1.1) | exact (·.1.1.2)); (refine Ev.of rfl ?_; first | exact fun _ => ⟨⟩ | exact id | exact And.right | exact And.left | exact (·.1.2) | exact (·.1.1) | exact (·.1.1.1) | exact (·.1.1.2)); exact rfl; exact rfl; exact rfl)
    | (apply Q_cat; (refine Ev.of rfl ?_; first | exact fun _ => ⟨⟩ | exact id | exact And.right | exact And.left | exact (·.1.2) | exact (·.1.1) | exact (·.1.1.1) | exact (·.1.1.2)); (refine Ev.of rfl ?_; first | exact fun _ => ⟨⟩ | exact id | exact And.right | exact And.left | exact (·.1.2) | exact (·.1.1) | exact (·.1.1.1) | exact (·.1.1.2)); (intro hg; first | omega | (simp; omega) | (simp at hg ⊢; omega)))); exact rfl)
          | (apply S_isnil TYok; exact rfl; exact rfl; exact rfl; (refine Ev.of rfl ?_; first | exact fun _ => ⟨⟩ | exact id | exact And.right | exact And.left | exact (·.1.2) | exact (·.1.1) | exact (·.1.1.1) | exact (·.1.1.2)); intro bn hnil)
          | (refine W.cond (by refine Ev.of rfl ?_; first | exact fun _ => ⟨⟩ | exact id | exact And.right | exact And.left | exact (·.1.2) | exact (·.1.1) | exact (·.1.1.1) | exact (·.1.1.2)) (fun hb => ?_) (fun hb => ?_) <;> (try simp at hb) <;> (try (exfalso; omega))))
        refine ⟨k + 1, by omega, ?_, ?_⟩
        · rw [hft]
          refine Le.mkR rfl rfl ?_ ?_ ?_ rfl
          · repeat (first | exact SubR.nil | apply SubR.p rfl (by first | rfl | (simp; done) | (congr 3; omega) | (congr 3; simp; omega)) | apply SubR.s rfl rfl rfl | apply SubR.a rfl rfl rfl | apply SubR.t rfl rfl | apply SubR.m rfl rfl rfl | apply SubR.i rfl rfl rfl rfl rfl)
          · repeat (first | exact SubR.nil | apply SubR.p rfl (by first | rfl | (simp; done) | (congr 3; omega) | (congr 3; simp; omega)) | apply SubR.s rfl rfl rfl | apply SubR.a rfl rfl rfl | apply SubR.t rfl rfl | apply SubR.m rfl rfl rfl | apply SubR.i rfl rfl rfl rfl rfl)
          · repeat (first | exact SubBR.nil | apply SubBR.cons rfl (by first | rfl | (simp only [List.map_append, List.map_replicate, List.map_cons, List.map_nil]; rfl) | (simp only [List.map_append, List.map_cons, List.map_nil, List.append_assoc, List.cons_append, List.nil_append]; rfl) | (simp; done)))
        · (try simp only); omega
      · rw [if_neg hn] at hft
        by_cases h0 : ft (l.take k) = []
        · have e1 : joinT (ft (l.take (k + 1))) = joinT (ft (l.take k)) ++ (nth l k).text := by rw [hft, h0]; rfl
          have e2 : decide (ft (l.take (k + 1)) = []) = false := by rw [hft]; simp
          rw [e1, List.length_append] at hle2
          simp only [h0, decide_true]
          rw [h0] at e1 hle1 hle2
          repeat' (first
            | apply RG.nil
            | apply Lex.nil
            | apply Then.n
            | apply Then.r
            | apply Then.x
            | apply InBlock.n
            | apply InBlock.r
            | apply InBlock.hit
            | (apply InBlock.miss; exact rfl)
            | apply W.seq
            | apply W.region
            | apply W.block
            | apply W.skip
            | apply W.ret
            | apply W.exit
            | ((first | apply U_); (first
    | (apply Q_move; (refine Ev.of rfl ?_; first | exact fun _ => ⟨⟩ | exact id | exact And.right | exact And.left | exact (·.1.2) | exact (·.1.1) | exact (·.1.1.1) | exact (·.1.1.2)))
    | (apply Q_assign; (refine Ev.of rfl ?_; first | exact fun _ => ⟨⟩ | exact id | exact And.right | exact And.left | exact (·.1.2) | exact (·.1.1) | exact (·.1.1.1) | exact (·.1.1.2)))
    | (apply Q_fieldp TYok; (refine Ev.of rfl ?_; first | exact fun _ => ⟨⟩ | exact id | exact And.right | exact And.left | exact (·.1.2) | exact (·.1.1) | exact (·.1.1.1) | exact (·.1.1.2)); exact rfl; exact rfl; exact rfl; exact rfl; exact rfl)
    | (apply Q_field TYok; (refine Ev.of rfl ?_; first | exact fun _ => ⟨⟩ | exact id | exact And.right | exact And.left | exact (·.1.2) | exact (·.1.1) | exact (·.1.1.1) | exact (·.1.1.2)); exact rfl; exact rfl; exact rfl; exact rfl; exact rfl)
    | (apply Q_loadp TYok; exact rfl; exact rfl; (refine Ev.of rfl ?_; first | exact fun _ => ⟨⟩ | exact id | exact And.right | exact And.left | exact (·.1.2) | exact (·.1.1) | exact (·.1.1.1) | exact (·.1.1.2)); exact rfl)
    | (apply Q_load TYok; exact rfl; exact rfl; (refine Ev.of rfl ?_; first | exact fun _ => ⟨⟩ | exact id | exact And.right | exact And.left | exact (·.1.2) | exact (·.1.1) | exact (·.1.1.1) | exact (·.1.1.2)); exact rfl; exact rfl; exact rfl)
    | (apply Q_loadm TYok; exact rfl; exact rfl; (refine Ev.of rfl ?_; first | exact fun _ => ⟨⟩ | exact id | exact And.right | exact And.left | exact (·.1.2) | exact (·.1.1) | exact (·.1.1.1) | exact (·.1.1.2)); exact rfl; (intro hg; first | omega | (simp; omega) | (simp at hg; simp; omega)); exact rfl; infer_instance)
    | (apply Q_loadpa TYok; exact rfl; exact rfl; (refine Ev.of rfl ?_; first | exact fun _ => ⟨⟩ | exact id | exact And.right | exact And.left | exact (·.1.2) | exact (·.1.1) | exact (·.1.1.1) | exact (·.1.1.2)); exact rfl)
    | (apply Q_loada TYok; exact rfl; exact rfl; (refine Ev.of rfl ?_; first | exact fun _ => ⟨⟩ | exact id | exact And.right | exact And.left | exact (·.1.2) | exact (·.1.1) | exact (·.1.1.1) | exact (·.1.1.2)); exact rfl; exact rfl; exact rfl)
    | (apply Q_loadma TYok; exact rfl; exact rfl; (refine Ev.of rfl ?_; first | exact fun _ => ⟨⟩ | exact id | exact And.right | exact And.left | exact (·.1.2) | exact (·.1.1) | exact (·.1.1.1) | exact (·.1.1.2)); exact rfl; (intro hg; first | omega | (simp; omega) | (simp at hg; simp; omega)); exact rfl; infer_instance)
    | (apply Q_add; (refine Ev.of rfl ?_; first | exact fun _ => ⟨⟩ | exact id | exact And.right | exact And.left | exact (·.1.2) | exact (·.1.1) | exact (·.1.1.1) | exact (·.1.1.2)); (refine Ev.of rfl ?_; first | exact fun _ => ⟨⟩ | exact id | exact And.right | exact And.left | exact (·.1.2) | exact (·.1.1) | exact (·.1.1.1) | exact (·.1.1.2)); (first | omega | (constructor <;> omega)))
    | (apply Q_add8; (refine Ev.of rfl ?_; first | exact fun _ => ⟨⟩ | exact id | exact And.right | exact And.left | exact (·.1.2) | exact (·.1.1) | exact (·.1.1.1) | exact (·.1.1.2)); (refine Ev.of rfl ?_; first | exact fun _ => ⟨⟩ | exact id | exact And.right | exact And.left | exact (·.1.2) | exact (·.1.1) | exact (·.1.1.1) | exact (·.1.1.2)); (first | omega | (constructor <;> omega)))
    | (apply Q_bin; (refine Ev.of rfl ?_; first | exact fun _ => ⟨⟩ | exact id | exact And.right | exact And.left | exact (·.1.2) | exact (·.1.1) | exact (·.1.1.1) | exact (·.1.1.2)); (refine Ev.of rfl ?_; first | exact fun _ => ⟨⟩ | exact id | exact And.right | exact And.left | exact (·.1.2) | exact (·.1.1) | exact (·.1.1.1) | exact (·.1.1.2)); exact rfl)
    | (apply Q_not; (refine Ev.of rfl ?_; first | exact fun _ => ⟨⟩ | exact id | exact And.right | exact And.left | exact (·.1.2) | exact (·.1.1) | exact (·.1.1.1) | exact (·.1.1.2)))
    | (apply Q_lenm TYok; (refine Ev.of rfl ?_; first | exact fun _ => ⟨⟩ | exact id | exact And.right | exact And.left | exact (·.1.2) | exact (·.1.1) | exact (·.1.1.1) | exact (·.1.1.2)); exact rfl; exact rfl)
    | (apply Q_lend TYok; (refine Ev.of rfl ?_; first | exact fun _ => ⟨⟩ | exact id | exact And.right | exact And.left | exact (·.1.2) | exact (·.1.1) | exact (·.1.1.1) | exact (·.1.1.2)); exact rfl; exact rfl)
    | (apply Q_lenom TYok; (refine Ev.of rfl ?_; first | exact fun _ => ⟨⟩ | exact id | exact And.right | exact And.left | exact (·.1.2) | exact (·.1.1) | exact (·.1.1.1) | exact (·.1.1.2)); exact rfl; exact rfl; exact rfl)
    | (apply Q_len TYok; (refine Ev.of rfl ?_; first | exact fun _ => ⟨⟩ | exact id | exact And.right | exact And.left | exact (·.1.2) | exact (·.1.1) | exact (·.1.1.1) | exact (·.1.1.2)); exact rfl; exact rfl; exact rfl)
    | (apply Q_len0 TYok; (refine Ev.of rfl ?_; first | exact fun _ => ⟨⟩ | exact id | exact And.right | exact And.left | exact (·.1.2) | exact (·.1.1) | exact (·.1.1.1) | exact (·.1.1.2)); exact rfl; exact rfl)
    | (apply Q_lens TYok; (refine Ev.of rfl ?_; first | exact fun _ => ⟨⟩ | exact id | exact And.right | exact And.left | exact (·.1.2) | exact (·.1.1) | exact (·.1.1.1) | exact (·.1.1.2)); exact rfl; exact rfl)
    | (apply Q_indexd TYok; (refine Ev.of rfl ?_; first | exact fun _ => ⟨⟩ | exact id | exact And.right | exact And.left | exact (·.1.2) | exact (·.1.1) | exact (·.1.1.1) | exact (·.1.1.2)); (refine Ev.of rfl ?_; first | exact fun _ => ⟨⟩ | exact id | exact And.right | exact And.left | exact (·.1.2) | exact (·.1.1) | exact (·.1.1.1) | exact (·.1.1.2)); exact rfl; exact rfl; exact rfl; (intro hg; first | exact getRowN (by first | omega | (simp at hg; omega)) | exact getRowI (by first | omega | (simp at hg; omega))); exact rfl)
    | (apply Q_index TYok; (refine Ev.of rfl ?_; first | exact fun _ => ⟨⟩ | exact id | exact And.right | exact And.left | exact (·.1.2) | exact (·.1.1) | exact (·.1.1.1) | exact (·.1.1.2)); (refine Ev.of rfl ?_; first | exact fun _ => ⟨⟩ | exact id | exact And.right | exact And.left | exact (·.1.2) | exact (·.1.1) | exact (·.1.1.1) | exact (·.1.1.2)); exact rfl; exact rfl; exact rfl; exact rfl; exact rfl; (intro hg; first | (simp; omega) | (simp at hg; simp; omega)))
    | (apply Q_binS; (refine Ev.of rfl ?_; first | exact fun _ => ⟨⟩ | exact id | exact And.right | exact And.left | exact (·.1.2) | exact (·.1.1) | exact (·.1.1.1) | exact (·.1.1.2)); (refine Ev.of rfl ?_; first | exact fun _ => ⟨⟩ | exact id | exact And.right | exact And.left | exact (·.1.2) | exact (·.1.1) | exact (·.1.1.1) | exact (·.1.1.2)); exact rfl)
    | (apply Q_binB TYok; (refine Ev.of rfl ?_; first | exact fun _ => ⟨⟩ | exact id | exact And.right | exact And.left | exact (·.1.2) | exact (·.1.1) | exact (·.1.1.1) | exact (·.1.1.2)); (refine Ev.of rfl ?_; first | exact fun _ => ⟨⟩ | exact id | exact And.right | exact And.left | exact (·.1.2) | exact (·.1.1) | exact (·.1.1.1) | exact (·.1.1.2)); exact rfl; exact rfl; exact rfl)
    | (apply Q_cat; (refine Ev.of rfl ?_; first | exact fun _ => ⟨⟩ | exact id | exact And.right | exact And.left | exact (·.1.2) | exact (·.1.1) | exact (·.1.1.1) | exact (·.1.1.2)); (refine Ev.of rfl ?_; first | exact fun _ => ⟨⟩ | exact id | exact And.right | exact And.left | exact (·.1.2) | exact (·.1.1) | exact (·.1.1.1) | exact (·.1.1.2)); (intro hg; first | omega | (simp; omega) | (simp at hg ⊢; omega)))); exact rfl)
            | (apply S_isnil TYok; exact rfl; exact rfl; exact rfl; (refine Ev.of rfl ?_; first | exact fun _ => ⟨⟩ | exact id | exact And.right | exact And.left | exact (·.1.2) | exact (·.1.1) | exact (·.1.1.1) | exact (·.1.1.2)); intro bn hnil)
            | (refine W.cond (by refine Ev.of rfl ?_; first | exact fun _ => ⟨⟩ | exact id | exact And.right | exact And.left | exact (·.1.2) | exact (·.1.1) | exact (·.1.1.1) | exact (·.1.1.2)) (fun hb => ?_) (fun hb => ?_) <;> (try simp at hb) <;> (try (exfalso; omega))))
          refine ⟨k + 1, by omega, ?_, ?_⟩
          · rw [e1, e2]
            refine Le.mkR rfl rfl ?_ ?_ ?_ rfl
            · repeat (first | exact SubR.nil | apply SubR.p rfl (by first | rfl | (simp; done) | (congr 3; omega) | (congr 3; simp; omega)) | apply SubR.s rfl rfl rfl | apply SubR.a rfl rfl rfl | apply SubR.t rfl rfl | apply SubR.m rfl rfl rfl | apply SubR.i rfl rfl rfl rfl rfl)
            · repeat (first | exact SubR.nil | apply SubR.p rfl (by first | rfl | (simp; done) | (congr 3; omega) | (congr 3; simp; omega)) | apply SubR.s rfl rfl rfl | apply SubR.a rfl rfl rfl | apply SubR.t rfl rfl | apply SubR.m rfl rfl rfl | apply SubR.i rfl rfl rfl rfl rfl)
            · repeat (first | exact SubBR.nil | apply SubBR.cons rfl (by first | rfl | (simp only [List.map_append, List.map_replicate, List.map_cons, List.map_nil]; rfl) | (simp only [List.map_append, List.map_cons, List.map_nil, List.append_assoc, List.cons_append, List.nil_append]; rfl) | (simp; done)))
          · (try simp only); omega
        · have e1 : joinT (ft (l.take (k + 1))) = joinT (ft (l.take k)) ++ [32] ++ (nth l k).text := by rw [hft, joinT_snoc _ _ h0]
          have e2 : decide (ft (l.take (k + 1)) = []) = false := by rw [hft]; simp
          rw [e1, List.length_append, List.length_append, List.length_singleton] at hle2
          have e3 : decide (ft (l.take k) = []) = false := by simp [h0]
          rw [e3]
          repeat' (first
            | apply RG.nil
            | apply Lex.nil
            | apply Then.n
            | apply Then.r
            | apply Then.x
            | apply InBlock.n
            | apply InBlock.r
            | apply InBlock.hit
            | (apply InBlock.miss; exact rfl)
            | apply W.seq
            | apply W.region
            | apply W.block
            | apply W.skip
            | apply W.ret
            | apply W.exit
            | ((first | apply U_); (first
    | (apply Q_move; (refine Ev.of rfl ?_; first | exact fun _ => ⟨⟩ | exact id | exact And.right | exact And.left | exact (·.1.2) | exact (·.1.1) | exact (·.1.1.1) | exact (·.1.1.2)))
    | (apply Q_assign; (refine Ev.of rfl ?_; first | exact fun _ => ⟨⟩ | exact id | exact And.right | exact And.left | exact (·.1.2) | exact (·.1.1) | exact (·.1.1.1) | exact (·.1.1.2)))
    | (apply Q_fieldp TYok; (refine Ev.of rfl ?_; first | exact fun _ => ⟨⟩ | exact id | exact And.right | exact And.left | exact (·.1.2) | exact (·.1.1) | exact (·.1.1.1) | exact (·.1.1.2)); exact rfl; exact rfl; exact rfl; exact rfl; exact rfl)
    | (apply Q_field TYok; (refine Ev.of rfl ?_; first | exact fun _ => ⟨⟩ | exact id | exact And.right | exact And.left | exact (·.1.2) | exact (·.1.1) | exact (·.1.1.1) | exact (·.1.1.2)); exact rfl; exact rfl; exact rfl; exact rfl; exact rfl)
    | (apply Q_loadp TYok; exact rfl; exact rfl; (refine Ev.of rfl ?_; first | exact fun _ => ⟨⟩ | exact id | exact And.right | exact And.left | exact (·.1.2) | exact (·.1.1) | exact (·.1.1.1) | exact (·.1.1.2)); exact rfl)
    | (apply Q_load TYok; exact rfl; exact rfl; (refine Ev.of rfl ?_; first | exact fun _ => ⟨⟩ | exact id | exact And.right | exact And.left | exact (·.1.2) | exact (·.1.1) | exact (·.1.1.1) | exact (·.1.1.2)); exact rfl; exact rfl; exact rfl)
    | (apply Q_loadm TYok; exact rfl; exact rfl; (refine Ev.of rfl ?_; first | exact fun _ => ⟨⟩ | exact id | exact And.right | exact And.left | exact (·.1.2) | exact (·.1.1) | exact (·.1.1.1) | exact (·.1.1.2)); exact rfl; (intro hg; first | omega | (simp; omega) | (simp at hg; simp; omega)); exact rfl; infer_instance)
    | (apply Q_loadpa TYok; exact rfl; exact rfl; (refine Ev.of rfl ?_; first | exact fun _ => ⟨⟩ | exact id | exact And.right | exact And.left | exact (·.1.2) | exact (·.1.1) | exact (·.1.1.1) | exact (·.1.1.2)); exact rfl)
    | (apply Q_loada TYok; exact rfl; exact rfl; (refine Ev.of rfl ?_; first | exact fun _ => ⟨⟩ | exact id | exact And.right | exact And.left | exact (·.1.2) | exact (·.1.1) | exact (·.1.1.1) | exact (·.1.1.2)); exact rfl; exact rfl; exact rfl)
    | (apply Q_loadma TYok; exact rfl; exact rfl; (refine Ev.of rfl ?_; first | exact fun _ => ⟨⟩ | exact id | exact And.right | exact And.left | exact (·.1.2) | exact (·.1.1) | exact (·.1.1.1) | exact (·.1.1.2)); exact rfl; (intro hg; first | omega | (simp; omega) | (simp at hg; simp; omega)); exact rfl; infer_instance)
    | (apply Q_add; (refine Ev.of rfl ?_; first | exact fun _ => ⟨⟩ | exact id | exact And.right | exact And.left | exact (·.1.2) | exact (·.1.1) | exact (·.1.1.1) | exact (·.1.1.2)); (refine Ev.of rfl ?_; first | exact fun _ => ⟨⟩ | exact id | exact And.right | exact And.left | exact (·.1.2) | exact (·.1.1) | exact (·.1.1.1) | exact (·.1.1.2)); (first | omega | (constructor <;> omega)))
    | (apply Q_add8; (refine Ev.of rfl ?_; first | exact fun _ => ⟨⟩ | exact id | exact And.right | exact And.left | exact (·.1.2) | exact (·.1.1) | exact (·.1.1.1) | exact (·.1.1.2)); (refine Ev.of rfl ?_; first | exact fun _ => ⟨⟩ | exact id | exact And.right | exact And.left | exact (·.1.2) | exact (·.1.1) | exact (·.1.1.1) | exact (·.1.1.2)); (first | omega | (constructor <;> omega)))
    | (apply Q_bin; (refine Ev.of rfl ?_; first | exact fun _ => ⟨⟩ | exact id | exact And.right | exact And.left | exact (·.1.2) | exact (·.1.1) | exact (·.1.1.1) | exact (·.1.1.2)); (refine Ev.of rfl ?_; first | exact fun _ => ⟨⟩ | exact id | exact And.right | exact And.left | exact (·.1.2) | exact (·.1.1) | exact (·.1.1.1) | exact (·.1.1.2)); exact rfl)
    | (apply Q_not; (refine Ev.of rfl ?_; first | exact fun _ => ⟨⟩ | exact id | exact And.right | exact And.left | exact (·.1.2) | exact (·.1.1) | exact (·.1.1.1) | exact (·.1.1.2)))
    | (apply Q_lenm TYok; (refine Ev.of rfl ?_; first | exact fun _ => ⟨⟩ | exact id | exact And.right | exact And.left | exact (·.1.2) | exact (·.1.1) | exact (·.1.1.1) | exact (·.1.1.2)); exact rfl; exact rfl)
    | (apply Q_lend TYok; (refine Ev.of rfl ?_; first | exact fun _ => ⟨⟩ | exact id | exact And.right | exact And.left | exact (·.1.2) | exact (·.1.1) | exact (·.1.1.1) | exact (·.1.1.2)); exact rfl; exact rfl)
    | (apply Q_lenom TYok; (refine Ev.of rfl ?_; first | exact fun _ => ⟨⟩ | exact id | exact And.right | exact And.left | exact (·.1.2) | exact (·.1.1) | exact (·.1.1.1) | exact (·.1.1.2)); exact rfl; exact rfl; exact rfl)
    | (apply Q_len TYok; (refine Ev.of rfl ?_; first | exact fun _ => ⟨⟩ | exact id | exact And.right | exact And.left | exact (·.1.2) | exact (·.1.1) | exact (·.1.1.1) | exact (·.1.1.2)); exact rfl; exact rfl; exact rfl)
    | (apply Q_len0 TYok; (refine Ev.of rfl ?_; first | exact fun _ => ⟨⟩ | exact id | exact And.right | exact And.left | exact (·.1.2) | exact (·.1.1) | exact (·.1.1.1) | exact (·.1.1.2)); exact rfl; exact rfl)
    | (apply Q_lens TYok; (refine Ev.of rfl ?_; first | exact fun _ => ⟨⟩ | exact id | exact And.right | exact And.left | exact (·.1.2) | exact (·.1.1) | exact (·.1.1.1) | exact (·.1.1.2)); exact rfl; exact rfl)
    | (apply Q_indexd TYok; (refine Ev.of rfl ?_; first | exact fun _ => ⟨⟩ | exact id | exact And.right | exact And.left | exact (·.1.2) | exact (·.1.1) | exact (·.1.1.1) | exact (·.1.1.2)); (refine Ev.of rfl ?_; first | exact fun _ => ⟨⟩ | exact id | exact And.right | exact And.left | exact (·.1.2) | exact (·.1.1) | exact (·.1.1.1) | exact (·.1.1.2)); exact rfl; exact rfl; exact rfl; (intro hg; first | exact getRowN (by first | omega | (simp at hg; omega)) | exact getRowI (by first | omega | (simp at hg; omega))); exact rfl)
    | (apply Q_index TYok; (refine Ev.of rfl ?_; first | exact fun _ => ⟨⟩ | exact id | exact And.right | exact And.left | exact (·.1.2) | exact (·.1.1) | exact (·.1.1.1) | exact (·.1.1.2)); (refine Ev.of rfl ?_; first | exact fun _ => ⟨⟩ | exact id | exact And.right | exact And.left | exact (·.1.2) | exact (·.1.1) | exact (·.1.1.1) | exact (·.1.1.2)); exact rfl; exact rfl; exact rfl; exact rfl; exact rfl; (intro hg; first | (simp; omega) | (simp at hg; simp; omega)))
    | (apply Q_binS; (refine Ev.of rfl ?_; first | exact fun _ => ⟨⟩ | exact id | exact And.right | exact And.left | exact (·.1.2) | exact (·.1.1) | exact (·.1.1.1) | exact (·.1.1.2)); (refine Ev.of rfl ?_; first | exact fun _ => ⟨⟩ | exact id | exact And.right | exact And.left | exact (·.1.2) | exact (·.1.1) | exact (·.1.1.1) | exact (·.1.1.2)); exact rfl)
    | (apply Q_binB TYok; (refine Ev.of rfl ?_; first | exact fun _ => ⟨⟩ | exact id | exact And.right | exact And.left | exact (·.1.2) | exact (·.1.1) | exact (·.1.1.1) | exact (·.1.1.2)); (refine Ev.of rfl ?_; first | exact fun _ => ⟨⟩ | exact id | exact And.right | exact And.left | exact (·.1.2) | exact (·.1.1) | exact (·.1.1.1) | exact (·.1.1.2)); exact rfl; exact rfl; exact rfl)
    | (apply Q_cat; (refine Ev.of rfl ?_; first | exact fun _ => ⟨⟩ | exact id | exact And.right | exact And.left | exact (·.1.2) | exact (·.1.1) | exact (·.1.1.1) | exact (·.1.1.2)); (refine Ev.of rfl ?_; first | exact fun _ => ⟨⟩ | exact id | exact And.right | exact And.left | exact (·.1.2) | exact (·.1.1) | exact (·.1.1.1) | exact (·.1.1.2)); (intro hg; first | omega | (simp; omega) | (simp at hg ⊢; omega)))); exact rfl)
            | (apply S_isnil TYok; exact rfl; exact rfl; exact rfl; (refine Ev.of rfl ?_; first | exact fun _ => ⟨⟩ | exact id | exact And.right | exact And.left | exact (·.1.2) | exact (·.1.1) | exact (·.1.1.1) | exact (·.1.1.2)); intro bn hnil)
            | (refine W.cond (by refine Ev.of rfl ?_; first | exact fun _ => ⟨⟩ | exact id | exact And.right | exact And.left | exact (·.1.2) | exact (·.1.1) | exact (·.1.1.1) | exact (·.1.1.2)) (fun hb => ?_) (fun hb => ?_) <;> (try simp at hb) <;> (try (exfalso; omega))))
          refine ⟨k + 1, by omega, ?_, ?_⟩
          · rw [e1, e2]
            refine Le.mkR rfl rfl ?_ ?_ ?_ rfl
            · repeat (first | exact SubR.nil | apply SubR.p rfl (by first | rfl | (simp; done) | (congr 3; omega) | (congr 3; simp; omega)) | apply SubR.s rfl rfl rfl | apply SubR.a rfl rfl rfl | apply SubR.t rfl rfl | apply SubR.m rfl rfl rfl | apply SubR.i rfl rfl rfl rfl rfl)
            · repeat (first | exact SubR.nil | apply SubR.p rfl (by first | rfl | (simp; done) | (congr 3; omega) | (congr 3; simp; omega)) | apply SubR.s rfl rfl rfl | apply SubR.a rfl rfl rfl | apply SubR.t rfl rfl | apply SubR.m rfl rfl rfl | apply SubR.i rfl rfl rfl rfl rfl)
            · repeat (first | exact SubBR.nil | apply SubBR.cons rfl (by first | rfl | (simp only [List.map_append, List.map_replicate, List.map_cons, List.map_nil]; rfl) | (simp only [List.map_append, List.map_cons, List.map_nil, List.append_assoc, List.cons_append, List.nil_append]; rfl) | (simp; done)))
          · (try simp only); omega
    · obtain rfl : k = l.length := by omega
      have e : textF l = joinT (ft (l.take l.length)) := by rw [List.take_length]; rfl
      repeat' (first
        | apply RG.nil
        | apply Lex.nil
        | apply Then.n
        | apply Then.r
        | apply Then.x
        | apply InBlock.n
        | apply InBlock.r
        | apply InBlock.hit
        | (apply InBlock.miss; exact rfl)
        | apply W.seq
        | apply W.region
        | apply W.block
        | apply W.skip
        | apply W.ret
        | apply W.exit
        | ((first | apply U_); (first
    | (apply Q_move; (refine Ev.of rfl ?_; first | exact fun _ => ⟨⟩ | exact id | exact And.right | exact And.left | exact (·.1.2) | exact (·.1.1) | exact (·.1.1.1) | exact (·.1.1.2)))
    | (apply Q_assign; (refine Ev.of rfl ?_; first | exact fun _ => ⟨⟩ | exact id | exact And.right | exact And.left | exact (·.1.2) | exact (·.1.1) | exact (·.1.1.1) | exact (·.1.1.2)))
    | (apply Q_fieldp TYok; (refine Ev.of rfl ?_; first | exact fun _ => ⟨⟩ | exact id | exact And.right | exact And.left | exact (·.1.2) | exact (·.1.1) | exact (·.1.1.1) | exact (·.1.1.2)); exact rfl; exact rfl; exact rfl; exact rfl; exact rfl)
    | (apply Q_field TYok; (refine Ev.of rfl ?_; first | exact fun _ => ⟨⟩ | exact id | exact And.right | exact And.left | exact (·.1.2) | exact (·.1.1) | exact (·.1.1.1) | exact (·.1.1.2)); exact rfl; exact rfl; exact rfl; exact rfl; exact rfl)
    | (apply Q_loadp TYok; exact rfl; exact rfl; (refine Ev.of rfl ?_; first | exact fun _ => ⟨⟩ | exact id | exact And.right | exact And.left | exact (·.1.2) | exact (·.1.1) | exact (·.1.1.1) | exact (·.1.1.2)); exact rfl)
    | (apply Q_load TYok; exact rfl; exact rfl; (refine Ev.of rfl ?_; first | exact fun _ => ⟨⟩ | exact id | exact And.right | exact And.left | exact (·.1.2) | exact (·.1.1) | exact (·.1.1.1) | exact (·.1.1.2)); exact rfl; exact rfl; exact rfl)
    | (apply Q_loadm TYok; exact rfl; exact rfl; (refine Ev.of rfl ?_; first | exact fun _ => ⟨⟩ | exact id | exact And.right | exact And.left | exact (·.1.2) | exact (·.1.1) | exact (·.1.1.1) | exact (·.1.1.2)); exact rfl; (intro hg; first | omega | (simp; omega) | (simp at hg; simp; omega)); exact rfl; infer_instance)
    | (apply Q_loadpa TYok; exact rfl; exact rfl; (refine Ev.of rfl ?_; first | exact fun _ => ⟨⟩ | exact id | exact And.right | exact And.left | exact (·.1.2) | exact (·.1.1) | exact (·.1.1.1) | exact (·.1.1.2)); exact rfl)
    | (apply Q_loada TYok; exact rfl; exact rfl; (refine Ev.of rfl ?_; first | exact fun _ => ⟨⟩ | exact id | exact And.right | exact And.left | exact (·.1.2) | exact (·.1.1) | exact (·.1.1.1) | exact (·.1.1.2)); exact rfl; exact rfl; exact rfl)
    | (apply Q_loadma TYok; exact rfl; exact rfl; (refine Ev.of rfl ?_; first | exact fun _ => ⟨⟩ | exact id | exact And.right | exact And.left | exact (·.1.2) | exact (·.1.1) | exact (·.1.1.1) | exact (·.1.1.2)); exact rfl; (intro hg; first | omega | (simp; omega) | (simp at hg; simp; omega)); exact rfl; infer_instance)
    | (apply Q_add; (refine Ev.of rfl ?_; first | exact fun _ => ⟨⟩ | exact id | exact And.right | exact And.left | exact (·.1.2) | exact (·.1.1) | exact (·.1.1.1) | exact (·.1.1.2)); (refine Ev.of rfl ?_; first | exact fun _ => ⟨⟩ | exact id | exact And.right | exact And.left | exact (·.1.2) | exact (·.1.1) | exact (·.1.1.1) | exact (·.1.1.2)); (first | omega | (constructor <;> omega)))
    | (apply Q_add8; (refine Ev.of rfl ?_; first | exact fun _ => ⟨⟩ | exact id | exact And.right | exact And.left | exact (·.1.2) | exact (·.1.1) | exact (·.1.1.1) | exact (·.1.1.2)); (refine Ev.of rfl ?_; first | exact fun _ => ⟨⟩ | exact id | exact And.right | exact And.left | exact (·.1.2) | exact (·.1.1) | exact (·.1.1.1) | exact (·.1.1.2)); (first | omega | (constructor <;> omega)))
    | (apply Q_bin; (refine Ev.of rfl ?_; first | exact fun _ => ⟨⟩ | exact id | exact And.right | exact And.left | exact (·.1.2) | exact (·.1.1) | exact (·.1.1.1) | exact (·.1.1.2)); (refine Ev.of rfl ?_; first | exact fun _ => ⟨⟩ | exact id | exact And.right | exact And.left | exact (·.1.2) | exact (·.1.1) | exact (·.1.1.1) | exact (·.1.1.2)); exact rfl)
    | (apply Q_not; (refine Ev.of rfl ?_; first | exact fun _ => ⟨⟩ | exact id | exact And.right | exact And.left | exact (·.1.2) | exact (·.1.1) | exact (·.1.1.1) | exact (·.1.1.2)))
    | (apply Q_lenm TYok; (refine Ev.of rfl ?_; first | exact fun _ => ⟨⟩ | exact id | exact And.right | exact And.left | exact (·.1.2) | exact (·.1.1) | exact (·.1.1.1) | exact (·.1.1.2)); exact rfl; exact rfl)
    | (apply Q_lend TYok; (refine Ev.of rfl ?_; first | exact fun _ => ⟨⟩ | exact id | exact And.right | exact And.left | exact (·.1.2) | exact (·.1.1) | exact (·.1.1.1) | exact (·.1.1.2)); exact rfl; exact rfl)
    | (apply Q_lenom TYok; (refine Ev.of rfl ?_; first | exact fun _ => ⟨⟩ | exact id | exact And.right | exact And.left | exact (·.1.2) | exact (·.1.1) | exact (·.1.1.1) | exact (·.1.1.2)); exact rfl; exact rfl; exact rfl)
    | (apply Q_len TYok; (refine Ev.of rfl ?_; first | exact fun _ => ⟨⟩ | exact id | exact And.right | exact And.left | exact (·.1.2) | exact (·.1.1) | exact (·.1.1.1) | exact (·.1.1.2)); exact rfl; exact rfl; exact rfl)
    | (apply Q_len0 TYok; (refine Ev.of rfl ?_; first | exact fun _ => ⟨⟩ | exact id | exact And.right | exact And.left | exact (·.1.2) | exact (·.1.1) | exact (·.1.1.1) | exact (·.1.1.2)); exact rfl; exact rfl)
    | (apply Q_lens TYok; (refine Ev.of rfl ?_; first | exact fun _ => ⟨⟩ | exact id | exact And.right | exact And.left | exact (·.1.2) | exact (·.1.1) | exact (·.1.1.1) | exact (·.1.1.2)); exact rfl; exact rfl)
    | (apply Q_indexd TYok; (refine Ev.of rfl ?_; first | exact fun _ => ⟨⟩ | exact id | exact And.right | exact And.left | exact (·.1.2) | exact (·.1.1) | exact (·.1.1.1) | exact (·.1.1.2)); (refine Ev.of rfl ?_; first | exact fun _ => ⟨⟩ | exact id | exact And.right | exact And.left | exact (·.1.2) | exact (·.1.1) | exact (·.1.1.1) | exact (·.1.1.2)); exact rfl; exact rfl; exact rfl; (intro hg; first | exact getRowN (by first | omega | (simp at hg; omega)) | exact getRowI (by first | omega | (simp at hg; omega))); exact rfl)
    | (apply Q_index TYok; (refine Ev.of rfl ?_; first | exact fun _ => ⟨⟩ | exact id | exact And.right | exact And.left | exact (·.1.2) | exact (·.1.1) | exact (·.1.1.1) | exact (·.1.1.2)); (refine Ev.of rfl ?_; first | exact fun _ => ⟨⟩ | exact id | exact And.right | exact And.left | exact (·.1.2) | exact (·.1.1) | exact (·.1.1.1) | exact (·.1.1.2)); exact rfl; exact rfl; exact rfl; exact rfl; exact rfl; (intro hg; first | (simp; omega) | (simp at hg; simp; omega)))
    | (apply Q_binS; (refine Ev.of rfl ?_; first | exact fun _ => ⟨⟩ | exact id | exact And.right | exact And.left | exact (·.1.2) | exact (·.1.1) | exact (·.1.1.1) | exact (·.1.1.2)); (refine Ev.of rfl ?_; first | exact fun _ => ⟨⟩ | exact id | exact And.right | exact And.left | exact (·.1.2) | exact (·.1.1) | exact (·.1.1.1) | exact (·.1.1.2)); exact rfl)
    | (apply Q_binB TYok; (refine Ev.of rfl ?_; first | exact fun _ => ⟨⟩ | exact id | exact And.right | exact And.left | exact (·.1.2) | exact (·.1.1) | exact (·.1.1.1) | exact (·.1.1.2)); (refine Ev.of rfl ?_; first | exact fun _ => ⟨⟩ | exact id | exact And.right | exact And.left | exact (·.1.2) | exact (·.1.1) | exact (·.1.1.1) | exact (·.1.1.2)); exact rfl; exact rfl; exact rfl)
    | (apply Q_cat; (refine Ev.of rfl ?_; first | exact fun _ => ⟨⟩ | exact id | exact And.right | exact And.left | exact (·.1.2) | exact (·.1.1) | exact (·.1.1.1) | exact (·.1.1.2)); (refine Ev.of rfl ?_; first | exact fun _ => ⟨⟩ | exact id | exact And.right | exact And.left | exact (·.1.2) | exact (·.1.1) | exact (·.1.1.1) | exact (·.1.1.2)); (intro hg; first | omega | (simp; omega) | (simp at hg ⊢; omega)))); exact rfl)
        | (apply S_isnil TYok; exact rfl; exact rfl; exact rfl; (refine Ev.of rfl ?_; first | exact fun _ => ⟨⟩ | exact id | exact And.right | exact And.left | exact (·.1.2) | exact (·.1.1) | exact (·.1.1.1) | exact (·.1.1.2)); intro bn hnil)
        | (refine W.cond (by refine Ev.of rfl ?_; first | exact fun _ => ⟨⟩ | exact id | exact And.right | exact And.left | exact (·.1.2) | exact (·.1.1) | exact (·.1.1.1) | exact (·.1.1.2)) (fun hb => ?_) (fun hb => ?_) <;> (try simp at hb) <;> (try (exfalso; omega))))
      rw [e]
      exact Fin.ret (by repeat (first | exact ResL.nil | refine ResL.cons rfl rfl (by first | exact PSub.rfl' | exact PSub.nil' | (refine PSub.of_eq ?_; simp; done) | (refine PSub.of_eq ?_; simp only [List.map_append, List.map_cons, List.map_nil]; rfl) | (refine PSub.of_eq ?_; simp; rfl)) ?_))
theorem lex_of {s : Str} {r : Res} (hl : s.length ≤ 9223372036854775807) (h : lexF s = r) : GCalls Tryd.prog 0 SG 11 [cS s] (.tup (outR r)) := h ▸ lex_ok s hl
def s1 : Str := [120, 32, 61, 61, 32, 49, 50, 97]
def s2 : Str := [97, 49, 61, 61, 48, 48, 55]
def s3 : Str := [97, 32, 58]
def s4 : Str := [97, 61, 98, 32, 59]
def t1 : List Token := [⟨0, [120], 0, 0⟩, ⟨2, [61, 61], 0, 2⟩, ⟨1, [49, 50], 12, 5⟩, ⟨0, [97], 0, 7⟩, ⟨3, [], 0, 8⟩]
def t4 : List Token := [⟨0, [97], 0, 0⟩, ⟨2, [61], 0, 1⟩, ⟨0, [98], 0, 2⟩, ⟨2, [59], 0, 4⟩, ⟨3, [], 0, 5⟩]
theorem l1 : GCalls Tryd.prog 0 SG 11 [cS s1] (.tup [slT t1, cI 0, cI 0]) := lex_of (r := .ok t1) (by decide) (by decide +kernel)
theorem l2 : GCalls Tryd.prog 0 SG 11 [cS s2] (.tup [.one (.sl []), cI 4, cI 3]) := lex_of (r := .err 4 3) (by decide) (by decide +kernel)
theorem l3 : GCalls Tryd.prog 0 SG 11 [cS s3] (.tup [.one (.sl []), cI 2, cI 10]) := lex_of (r := .err 2 10) (by decide) (by decide +kernel)
theorem l4 : GCalls Tryd.prog 0 SG 11 [cS s4] (.tup [slT t4, cI 0, cI 0]) := lex_of (r := .ok t4) (by decide) (by decide +kernel)
theorem n1 : ACalls Tryd.prog 13 [cS [49, 50]] (.tup [cI 12, cB true]) := by
  have h := number_ok [49, 50] (by decide)
  rwa [show numberF [49, 50] = (12, true) by decide +kernel] at h
theorem n2 : ACalls Tryd.prog 13 [cS [48, 49, 50]] (.tup [cI 0, cB false]) := by
  have h := number_ok [48, 49, 50] (by decide)
  rwa [show numberF [48, 49, 50] = (0, false) by decide +kernel] at h
theorem w1 : ACalls Tryd.prog 16 [cS [97, 49]] (.pv (cB true)) := by
  have h := word_ok [97, 49] (by decide)
  rwa [show wordF [97, 49] = true by decide +kernel] at h
theorem w2 : ACalls Tryd.prog 16 [cS [49, 97]] (.pv (cB false)) := by
  have h := word_ok [49, 97] (by decide)
  rwa [show wordF [49, 97] = false by decide +kernel] at h
def x4 : Str := [97, 32, 61, 32, 98, 32, 59]
theorem x1 : ACalls Tryd.prog 18 [slT t4] (.pv (cS x4)) := by
  have h := text_ok t4 (by decide) (by decide +kernel)
  rwa [show textF t4 = x4 by decide +kernel] at h
theorem e1 : ACalls Tryd.prog 15 [slT t1, slT t1] (.pv (cB true)) := by
  have h := same_ok t1 t1 (by decide) (by decide)
  rwa [show decide (t1 = t1) = true by simp] at h
theorem small_ok : GCalls Tryd.prog 0 SG 9 [] (.pv (cB true)) := by
  refine GCalls.of_M TYok (qs := [cB true]) [.tmp 0] 104 Tryd.func9 (by kernel_rfl) rfl rfl rfl fun G hG => ?_
  apply W.init (by repeat (first | exact InitE.nil | apply InitE.c0 | apply InitE.c1 | apply InitE.c2 | apply InitE.c3 | apply InitE.c4 | apply InitE.c5 | apply InitE.c6 | apply InitE.c7 | apply InitE.c8 | apply InitE.c9 | apply InitE.c10 | apply InitE.c11))
  repeat' (first
    | apply RG.nil
    | apply Lex.nil
    | apply Then.n
    | apply Then.r
    | apply Then.x
    | apply InBlock.n
    | apply InBlock.r
    | apply InBlock.hit
    | (apply InBlock.miss; exact rfl)
    | apply W.seq
    | apply W.region
    | apply W.block
    | apply W.skip
    | apply W.ret
    | apply W.exit
    | ((first | apply U_ | (apply Ug_; exact rfl; exact rfl) | (apply Ugq_; exact rfl; exact rfl)); (first
    | (apply Q_move; (refine Ev.of rfl ?_; first | exact fun _ => ⟨⟩ | exact id | exact And.right | exact And.left | exact (·.1.2) | exact (·.1.1) | exact (·.1.1.1) | exact (·.1.1.2)))
    | (apply Q_assign; (refine Ev.of rfl ?_; first | exact fun _ => ⟨⟩ | exact id | exact And.right | exact And.left | exact (·.1.2) | exact (·.1.1) | exact (·.1.1.1) | exact (·.1.1.2)))
    | (apply Q_bin; (refine Ev.of rfl ?_; first | exact fun _ => ⟨⟩ | exact id | exact And.right | exact And.left | exact (·.1.2) | exact (·.1.1) | exact (·.1.1.1) | exact (·.1.1.2)); (refine Ev.of rfl ?_; first | exact fun _ => ⟨⟩ | exact id | exact And.right | exact And.left | exact (·.1.2) | exact (·.1.1) | exact (·.1.1.1) | exact (·.1.1.2)); exact rfl)
    | (apply Q_or; (refine Ev.of rfl ?_; first | exact fun _ => ⟨⟩ | exact id | exact And.right | exact And.left | exact (·.1.2) | exact (·.1.1) | exact (·.1.1.1) | exact (·.1.1.2)); (refine Ev.of rfl ?_; first | exact fun _ => ⟨⟩ | exact id | exact And.right | exact And.left | exact (·.1.2) | exact (·.1.1) | exact (·.1.1.1) | exact (·.1.1.2)))
    | (apply Q_and; (refine Ev.of rfl ?_; first | exact fun _ => ⟨⟩ | exact id | exact And.right | exact And.left | exact (·.1.2) | exact (·.1.1) | exact (·.1.1.1) | exact (·.1.1.2)); (refine Ev.of rfl ?_; first | exact fun _ => ⟨⟩ | exact id | exact And.right | exact And.left | exact (·.1.2) | exact (·.1.1) | exact (·.1.1.1) | exact (·.1.1.2)))
    | (apply Q_not; (refine Ev.of rfl ?_; first | exact fun _ => ⟨⟩ | exact id | exact And.right | exact And.left | exact (·.1.2) | exact (·.1.1) | exact (·.1.1.1) | exact (·.1.1.2)))
    | (apply Q_binS; (refine Ev.of rfl ?_; first | exact fun _ => ⟨⟩ | exact id | exact And.right | exact And.left | exact (·.1.2) | exact (·.1.1) | exact (·.1.1.1) | exact (·.1.1.2)); (refine Ev.of rfl ?_; first | exact fun _ => ⟨⟩ | exact id | exact And.right | exact And.left | exact (·.1.2) | exact (·.1.1) | exact (·.1.1.1) | exact (·.1.1.2)); exact rfl)
    | (apply Q_binB TYok; (refine Ev.of rfl ?_; first | exact fun _ => ⟨⟩ | exact id | exact And.right | exact And.left | exact (·.1.2) | exact (·.1.1) | exact (·.1.1.1) | exact (·.1.1.2)); (refine Ev.of rfl ?_; first | exact fun _ => ⟨⟩ | exact id | exact And.right | exact And.left | exact (·.1.2) | exact (·.1.1) | exact (·.1.1.1) | exact (·.1.1.2)); exact rfl; exact rfl; exact rfl)
    | (apply Q_extract; (refine Ev.of rfl ?_; first | exact fun _ => ⟨⟩ | exact id | exact And.right | exact And.left | exact (·.1.2) | exact (·.1.1) | exact (·.1.1.1) | exact (·.1.1.2)); exact rfl)
    | (apply Q_build TYok; (repeat (first | exact EvP.nil | apply EvP.cons (by refine Ev.of rfl ?_; first | exact fun _ => ⟨⟩ | exact id | exact And.right | exact And.left | exact (·.1.2) | exact (·.1.1) | exact (·.1.1.1) | exact (·.1.1.2)))); exact rfl; exact rfl; exact rfl; exact rfl)
    | (apply Q_callGd hG (l1); focus ((repeat (first | exact EvD.nil | refine EvD.cons (by refine Ev.of rfl ?_; first | exact fun _ => ⟨⟩ | exact id | exact And.right | exact And.left | exact (·.1.2) | exact (·.1.1) | exact (·.1.1.1) | exact (·.1.1.2)) (by first | exact PSub.rfl' | exact PSub.nil' | (refine PSub.of_eq ?_; simp only [List.map_append, List.map_cons, List.map_nil, List.nil_append]; rfl)) ?_)); done))
    | (apply Q_callGd hG (l2); focus ((repeat (first | exact EvD.nil | refine EvD.cons (by refine Ev.of rfl ?_; first | exact fun _ => ⟨⟩ | exact id | exact And.right | exact And.left | exact (·.1.2) | exact (·.1.1) | exact (·.1.1.1) | exact (·.1.1.2)) (by first | exact PSub.rfl' | exact PSub.nil' | (refine PSub.of_eq ?_; simp only [List.map_append, List.map_cons, List.map_nil, List.nil_append]; rfl)) ?_)); done))
    | (apply Q_callGd hG (l3); focus ((repeat (first | exact EvD.nil | refine EvD.cons (by refine Ev.of rfl ?_; first | exact fun _ => ⟨⟩ | exact id | exact And.right | exact And.left | exact (·.1.2) | exact (·.1.1) | exact (·.1.1.1) | exact (·.1.1.2)) (by first | exact PSub.rfl' | exact PSub.nil' | (refine PSub.of_eq ?_; simp only [List.map_append, List.map_cons, List.map_nil, List.nil_append]; rfl)) ?_)); done))
    | (apply Q_callGd hG (l4); focus ((repeat (first | exact EvD.nil | refine EvD.cons (by refine Ev.of rfl ?_; first | exact fun _ => ⟨⟩ | exact id | exact And.right | exact And.left | exact (·.1.2) | exact (·.1.1) | exact (·.1.1.1) | exact (·.1.1.2)) (by first | exact PSub.rfl' | exact PSub.nil' | (refine PSub.of_eq ?_; simp only [List.map_append, List.map_cons, List.map_nil, List.nil_append]; rfl)) ?_)); done))
    | (apply Q_call (n1); (repeat (first | exact EvL.nil | refine EvL.cons (by refine Ev.of rfl ?_; first | exact fun _ => ⟨⟩ | exact id | exact And.right | exact And.left | exact (·.1.2) | exact (·.1.1) | exact (·.1.1.1) | exact (·.1.1.2)) rfl (by first | exact PSub.rfl' | exact PSub.nil' | (refine PSub.of_eq ?_; simp only [List.map_append, List.map_cons, List.map_nil, List.nil_append]; rfl)) ?_)); exact rfl)
    | (apply Q_call (n2); (repeat (first | exact EvL.nil | refine EvL.cons (by refine Ev.of rfl ?_; first | exact fun _ => ⟨⟩ | exact id | exact And.right | exact And.left | exact (·.1.2) | exact (·.1.1) | exact (·.1.1.1) | exact (·.1.1.2)) rfl (by first | exact PSub.rfl' | exact PSub.nil' | (refine PSub.of_eq ?_; simp only [List.map_append, List.map_cons, List.map_nil, List.nil_append]; rfl)) ?_)); exact rfl)
    | (apply Q_call (w1); (repeat (first | exact EvL.nil | refine EvL.cons (by refine Ev.of rfl ?_; first | exact fun _ => ⟨⟩ | exact id | exact And.right | exact And.left | exact (·.1.2) | exact (·.1.1) | exact (·.1.1.1) | exact (·.1.1.2)) rfl (by first | exact PSub.rfl' | exact PSub.nil' | (refine PSub.of_eq ?_; simp only [List.map_append, List.map_cons, List.map_nil, List.nil_append]; rfl)) ?_)); exact rfl)
    | (apply Q_call (w2); (repeat (first | exact EvL.nil | refine EvL.cons (by refine Ev.of rfl ?_; first | exact fun _ => ⟨⟩ | exact id | exact And.right | exact And.left | exact (·.1.2) | exact (·.1.1) | exact (·.1.1.1) | exact (·.1.1.2)) rfl (by first | exact PSub.rfl' | exact PSub.nil' | (refine PSub.of_eq ?_; simp only [List.map_append, List.map_cons, List.map_nil, List.nil_append]; rfl)) ?_)); exact rfl)
    | (apply Q_call (x1); (repeat (first | exact EvL.nil | refine EvL.cons (by refine Ev.of rfl ?_; first | exact fun _ => ⟨⟩ | exact id | exact And.right | exact And.left | exact (·.1.2) | exact (·.1.1) | exact (·.1.1.1) | exact (·.1.1.2)) rfl (by first | exact PSub.rfl' | exact PSub.nil' | (refine PSub.of_eq ?_; simp only [List.map_append, List.map_cons, List.map_nil, List.nil_append]; rfl)) ?_)); exact rfl)
    | (apply Q_call (e1); (repeat (first | exact EvL.nil | refine EvL.cons (by refine Ev.of rfl ?_; first | exact fun _ => ⟨⟩ | exact id | exact And.right | exact And.left | exact (·.1.2) | exact (·.1.1) | exact (·.1.1.1) | exact (·.1.1.2)) rfl (by first | exact PSub.rfl' | exact PSub.nil' | (refine PSub.of_eq ?_; simp only [List.map_append, List.map_cons, List.map_nil, List.nil_append]; rfl)) ?_)); exact rfl)); exact rfl)
    | (apply S_lit TYok; (repeat (first | exact EvR.nil | apply EvR.cons (by refine Ev.of rfl ?_; first | exact fun _ => ⟨⟩ | exact id | exact And.right | exact And.left | exact (·.1.2) | exact (·.1.1) | exact (·.1.1.1) | exact (·.1.1.2)))); exact rfl; exact rfl; exact rfl; exact rfl; exact rfl; exact rfl; exact rfl; exact rfl; exact rfl)
    | (apply S_isnil TYok; exact rfl; exact rfl; exact rfl; (refine Ev.of rfl ?_; first | exact fun _ => ⟨⟩ | exact id | exact And.right | exact And.left | exact (·.1.2) | exact (·.1.1) | exact (·.1.1.1) | exact (·.1.1.2)); intro bn hnil)
    | (apply RG.gT; exact rfl; exact rfl; (first | assumption | decide))
    | (apply RG.gF; exact rfl; exact rfl; (first | assumption | decide); exact rfl)
    | (refine W.cond (by refine Ev.of rfl ?_; first | exact fun _ => ⟨⟩ | exact id | exact And.right | exact And.left | exact (·.1.2) | exact (·.1.1) | exact (·.1.1.1) | exact (·.1.1.2)) (fun hb => ?_) (fun hb => ?_) <;> (try simp at hb) <;> (try (exfalso; omega))))
  exact FinM.ret (by repeat (first | exact ResM.nil | refine ResM.cell rfl rfl rfl rfl (by first | exact PSub.rfl' | (refine PSub.of_eq ?_; simp; done) | (refine PSub.of_eq ?_; rfl)) ?_ | refine ResM.tmp rfl rfl (by first | exact PSub.rfl' | exact PSub.nil' | (refine PSub.of_eq ?_; simp; done) | (refine PSub.of_eq ?_; simp only [List.map_append, List.map_cons, List.map_nil]; rfl) | (refine PSub.of_eq ?_; simp; rfl)) ?_))
end Go.Proofs.YtcllkfehcnpdmaaDoor
