/-
  Take, fact.Add, by the program and by the reference.
-/
import Derived.Test.YtceggnkijedonaaWalk6
set_option linter.unusedVariables false
set_option linter.unusedSimpArgs false
set_option maxHeartbeats 8000000
namespace Go.Proofs.Ytceggnkijedonaa
open Lf Go
attribute [local irreducible] PureOp EffOp Ev RG W Then InBlock Lf.Fin nth App InitE Pick SubE SubF SubG EvL EvD EvP EvR ResL Lex SubR SubBR RA RAll EvC FinO EvA

def lateF (l : List Use) (u : Use) : Bool := decide (0 < l.length) && decide ((nth l (l.length - 1)).day > u.day)
theorem late_t {l : List Use} {u : Use} (h : 0 < l.length ∧ u.day < (nth l (l.length - 1)).day) : lateF l u = true := by simp [lateF, h.1, h.2]
theorem late_f {l : List Use} {u : Use} (h : 0 < l.length → (nth l (l.length - 1)).day ≤ u.day) : lateF l u = false := by
  by_cases hl : 0 < l.length
  · simp [lateF, hl, h hl]
  · simp [lateF, hl]
def takeF (b : Basket) (fs : List Fact) (l : List Use) (i : Int) (u : Use) : List Use × Int :=
  if useF u = false then ([], 1)
  else if (roomF b fs l i u.day).2 ≠ 0 then ([], (roomF b fs l i u.day).2)
  else if lateF l u then ([], 20)
  else if u.amount > (roomF b fs l i u.day).1 then ([], 22)
  else if l.length = 10000 then ([], 6)
  else (l ++ [u], 0)
abbrev lpair (r : List Use × Int) : AV := .tup [slU r.1, cI r.2]
theorem take_ok (b : Basket) (fs : List Fact) (l : List Use) (i : Int) (u : Use) (hn : okN b.name) (h : ∀ f ∈ fs, okN f.name) (hl : big fs.length) (hu : big l.length) : ACalls Try.prog 14 [aB b, slF fs, slU l, cI i, aU u] (lpair (takeF b fs l i u)) := by
  refine ACalls.of_W (qs := [slU (takeF b fs l i u).1, cI (takeF b fs l i u).2]) [10, 11] 61 Try.func14 (by kernel_rfl) rfl rfl rfl fun G => ?_
  apply W.init (by repeat (first | exact InitE.nil | apply InitE.c0 | apply InitE.c1 | apply InitE.c2 | apply InitE.c3 | apply InitE.c4 | apply InitE.c5 | apply InitE.c6 | apply InitE.c7 | apply InitE.c8 | apply InitE.c9 | apply InitE.c10 | apply InitE.c11))
  repeat' (first
    | apply RG.nil
    | apply Lex.nil
    | apply Then.n
    | apply Then.r
    | apply Then.x
    | apply InBlock.n
    | apply InBlock.r
    | apply InBlock.hit
    | (apply InBlock.miss; exact rfl)
    | apply W.seq
    | apply W.region
    | apply W.block
    | apply W.skip
    | apply W.ret
    | apply W.exit
    | (apply W.draw2 (id := 6) [0, 1, 3, 7, 15, 15, 47, 111, 255, 511, 1023, 15, 2063, 8191, 16383, 32767] [[2], [32], [33], [34], [2, 35], [2, 35], [37, 35], [38, 35], [36, 39, 35], [40, 35], [41, 35], [9, 35], [43, 35], [42, 44, 35], [35, 45], [46]] 16 [(32, 4), (33, 4294967296), (34, 8589934592), (35, 17179869184), (36, 34359738372), (37, 34359738372), (38, 171798691840), (39, 309237645312), (40, 652835028992), (41, 1133871366144), (42, 2233382993920), (43, 34359738880), (44, 8830452760576), (45, 22024592293888), (46, 35218731827200), (31, 70368744177664)] mixed (by kernel_rfl) rfl rfl)
    | (refine W.drawA (id := 12) (L := [false, false, false, false, false, false, false]) mixed rfl ?_)
    | exact RAll.nil
    | (refine RAll.cons rfl ?_ ?_)
    | (refine RA.step (L := [false, false, false, false, false, false, false]) (i := 0) (is := [2]) (by kernel_rfl) ?_)
    | (refine RA.step (L := [false, false, true, false, false, false, false]) (i := 0) (is := [3]) (by kernel_rfl) ?_)
    | (refine RA.step (L := [false, false, true, true, false, false, false]) (i := 0) (is := []) (by kernel_rfl) ?_)
    | (refine RA.step (L := [true, false, true, true, false, false, false]) (i := 1) (is := []) (by kernel_rfl) ?_)
    | (refine RA.step (L := [true, true, true, true, false, false, false]) (i := 4) (is := []) (by kernel_rfl) ?_)
    | (refine RA.step (L := [true, true, true, true, true, false, false]) (i := 5) (is := []) (by kernel_rfl) ?_)
    | (refine RA.step (L := [true, true, true, true, true, true, false]) (i := 6) (is := []) (by kernel_rfl) ?_)
    | (refine RA.done (L := [true, true, true, true, true, true, true]) (by kernel_rfl) ?_)
    | (refine RA.step (L := [true, false, true, false, false, false, false]) (i := 1) (is := [3]) (by kernel_rfl) ?_)
    | (refine RA.step (L := [true, true, true, false, false, false, false]) (i := 3) (is := []) (by kernel_rfl) ?_)
    | (refine RA.step (L := [true, false, false, false, false, false, false]) (i := 1) (is := [2]) (by kernel_rfl) ?_)
    | (refine RA.step (L := [true, true, false, false, false, false, false]) (i := 2) (is := []) (by kernel_rfl) ?_)
    | ((first | apply U_ | (apply Ug_; exact rfl; exact rfl) | (apply Ugq_; exact rfl; exact rfl) | apply Lex.u | (apply Lex.g; exact rfl; exact rfl) | (apply Lex.gq; exact rfl; exact rfl)); (first
    | (apply Q_move; (refine Ev.of rfl ?_; first | exact fun _ => ⟨⟩ | exact id | exact And.right | exact And.left | exact (·.1.2) | exact (·.1.1) | exact (·.1.1.1) | exact (·.1.1.2)))
    | (apply Q_assign; (refine Ev.of rfl ?_; first | exact fun _ => ⟨⟩ | exact id | exact And.right | exact And.left | exact (·.1.2) | exact (·.1.1) | exact (·.1.1.1) | exact (·.1.1.2)))
    | (apply Q_fieldp TYok; (refine Ev.of rfl ?_; first | exact fun _ => ⟨⟩ | exact id | exact And.right | exact And.left | exact (·.1.2) | exact (·.1.1) | exact (·.1.1.1) | exact (·.1.1.2)); exact rfl; exact rfl; exact rfl; exact rfl; exact rfl)
    | (apply Q_field TYok; (refine Ev.of rfl ?_; first | exact fun _ => ⟨⟩ | exact id | exact And.right | exact And.left | exact (·.1.2) | exact (·.1.1) | exact (·.1.1.1) | exact (·.1.1.2)); exact rfl; exact rfl; exact rfl; exact rfl; exact rfl)
    | (apply Q_loadp TYok; exact rfl; exact rfl; (refine Ev.of rfl ?_; first | exact fun _ => ⟨⟩ | exact id | exact And.right | exact And.left | exact (·.1.2) | exact (·.1.1) | exact (·.1.1.1) | exact (·.1.1.2)); exact rfl)
    | (apply Q_load TYok; exact rfl; exact rfl; (refine Ev.of rfl ?_; first | exact fun _ => ⟨⟩ | exact id | exact And.right | exact And.left | exact (·.1.2) | exact (·.1.1) | exact (·.1.1.1) | exact (·.1.1.2)); exact rfl; exact rfl; exact rfl)
    | (apply Q_loadm TYok; exact rfl; exact rfl; (refine Ev.of rfl ?_; first | exact fun _ => ⟨⟩ | exact id | exact And.right | exact And.left | exact (·.1.2) | exact (·.1.1) | exact (·.1.1.1) | exact (·.1.1.2)); exact rfl; (intro hg; first | omega | (simp; omega) | (simp at hg; simp; omega)); exact rfl; infer_instance)
    | (apply Q_loadpa TYok; exact rfl; exact rfl; (refine Ev.of rfl ?_; first | exact fun _ => ⟨⟩ | exact id | exact And.right | exact And.left | exact (·.1.2) | exact (·.1.1) | exact (·.1.1.1) | exact (·.1.1.2)); exact rfl)
    | (apply Q_loada TYok; exact rfl; exact rfl; (refine Ev.of rfl ?_; first | exact fun _ => ⟨⟩ | exact id | exact And.right | exact And.left | exact (·.1.2) | exact (·.1.1) | exact (·.1.1.1) | exact (·.1.1.2)); exact rfl; exact rfl; exact rfl)
    | (apply Q_loadma TYok; exact rfl; exact rfl; (refine Ev.of rfl ?_; first | exact fun _ => ⟨⟩ | exact id | exact And.right | exact And.left | exact (·.1.2) | exact (·.1.1) | exact (·.1.1.1) | exact (·.1.1.2)); exact rfl; (intro hg; first | omega | (simp; omega) | (simp at hg; simp; omega)); exact rfl; infer_instance)
    | (apply Q_sub; (refine Ev.of rfl ?_; first | exact fun _ => ⟨⟩ | exact id | exact And.right | exact And.left | exact (·.1.2) | exact (·.1.1) | exact (·.1.1.1) | exact (·.1.1.2)); (refine Ev.of rfl ?_; first | exact fun _ => ⟨⟩ | exact id | exact And.right | exact And.left | exact (·.1.2) | exact (·.1.1) | exact (·.1.1.1) | exact (·.1.1.2)); (first | omega | (constructor <;> omega)))
    | (apply Q_bin; (refine Ev.of rfl ?_; first | exact fun _ => ⟨⟩ | exact id | exact And.right | exact And.left | exact (·.1.2) | exact (·.1.1) | exact (·.1.1.1) | exact (·.1.1.2)); (refine Ev.of rfl ?_; first | exact fun _ => ⟨⟩ | exact id | exact And.right | exact And.left | exact (·.1.2) | exact (·.1.1) | exact (·.1.1.1) | exact (·.1.1.2)); exact rfl)
    | (apply Q_or; (refine Ev.of rfl ?_; first | exact fun _ => ⟨⟩ | exact id | exact And.right | exact And.left | exact (·.1.2) | exact (·.1.1) | exact (·.1.1.1) | exact (·.1.1.2)); (refine Ev.of rfl ?_; first | exact fun _ => ⟨⟩ | exact id | exact And.right | exact And.left | exact (·.1.2) | exact (·.1.1) | exact (·.1.1.1) | exact (·.1.1.2)))
    | (apply Q_and; (refine Ev.of rfl ?_; first | exact fun _ => ⟨⟩ | exact id | exact And.right | exact And.left | exact (·.1.2) | exact (·.1.1) | exact (·.1.1.1) | exact (·.1.1.2)); (refine Ev.of rfl ?_; first | exact fun _ => ⟨⟩ | exact id | exact And.right | exact And.left | exact (·.1.2) | exact (·.1.1) | exact (·.1.1.1) | exact (·.1.1.2)))
    | (apply Q_not; (refine Ev.of rfl ?_; first | exact fun _ => ⟨⟩ | exact id | exact And.right | exact And.left | exact (·.1.2) | exact (·.1.1) | exact (·.1.1.1) | exact (·.1.1.2)))
    | (apply Q_lenm TYok; (refine Ev.of rfl ?_; first | exact fun _ => ⟨⟩ | exact id | exact And.right | exact And.left | exact (·.1.2) | exact (·.1.1) | exact (·.1.1.1) | exact (·.1.1.2)); exact rfl; exact rfl)
    | (apply Q_lend TYok; (refine Ev.of rfl ?_; first | exact fun _ => ⟨⟩ | exact id | exact And.right | exact And.left | exact (·.1.2) | exact (·.1.1) | exact (·.1.1.1) | exact (·.1.1.2)); exact rfl; exact rfl)
    | (apply Q_lenom TYok; (refine Ev.of rfl ?_; first | exact fun _ => ⟨⟩ | exact id | exact And.right | exact And.left | exact (·.1.2) | exact (·.1.1) | exact (·.1.1.1) | exact (·.1.1.2)); exact rfl; exact rfl; exact rfl)
    | (apply Q_len TYok; (refine Ev.of rfl ?_; first | exact fun _ => ⟨⟩ | exact id | exact And.right | exact And.left | exact (·.1.2) | exact (·.1.1) | exact (·.1.1.1) | exact (·.1.1.2)); exact rfl; exact rfl; exact rfl)
    | (apply Q_len0 TYok; (refine Ev.of rfl ?_; first | exact fun _ => ⟨⟩ | exact id | exact And.right | exact And.left | exact (·.1.2) | exact (·.1.1) | exact (·.1.1.1) | exact (·.1.1.2)); exact rfl; exact rfl)
    | (apply Q_lens TYok; (refine Ev.of rfl ?_; first | exact fun _ => ⟨⟩ | exact id | exact And.right | exact And.left | exact (·.1.2) | exact (·.1.1) | exact (·.1.1.1) | exact (·.1.1.2)); exact rfl; exact rfl)
    | (apply Q_indexd TYok; (refine Ev.of rfl ?_; first | exact fun _ => ⟨⟩ | exact id | exact And.right | exact And.left | exact (·.1.2) | exact (·.1.1) | exact (·.1.1.1) | exact (·.1.1.2)); (refine Ev.of rfl ?_; first | exact fun _ => ⟨⟩ | exact id | exact And.right | exact And.left | exact (·.1.2) | exact (·.1.1) | exact (·.1.1.1) | exact (·.1.1.2)); exact rfl; exact rfl; exact rfl; (intro hg; first | exact getRowN (by first | omega | (simp at hg; omega)) | exact getRowI (by first | omega | (simp at hg; omega))); exact rfl)
    | (apply Q_index TYok; (refine Ev.of rfl ?_; first | exact fun _ => ⟨⟩ | exact id | exact And.right | exact And.left | exact (·.1.2) | exact (·.1.1) | exact (·.1.1.1) | exact (·.1.1.2)); (refine Ev.of rfl ?_; first | exact fun _ => ⟨⟩ | exact id | exact And.right | exact And.left | exact (·.1.2) | exact (·.1.1) | exact (·.1.1.1) | exact (·.1.1.2)); exact rfl; exact rfl; exact rfl; exact rfl; exact rfl; (intro hg; first | (simp; omega) | (simp at hg; simp; omega)))
    | (apply Q_binS; (refine Ev.of rfl ?_; first | exact fun _ => ⟨⟩ | exact id | exact And.right | exact And.left | exact (·.1.2) | exact (·.1.1) | exact (·.1.1.1) | exact (·.1.1.2)); (refine Ev.of rfl ?_; first | exact fun _ => ⟨⟩ | exact id | exact And.right | exact And.left | exact (·.1.2) | exact (·.1.1) | exact (·.1.1.1) | exact (·.1.1.2)); exact rfl)
    | (apply Q_binB TYok; (refine Ev.of rfl ?_; first | exact fun _ => ⟨⟩ | exact id | exact And.right | exact And.left | exact (·.1.2) | exact (·.1.1) | exact (·.1.1.1) | exact (·.1.1.2)); (refine Ev.of rfl ?_; first | exact fun _ => ⟨⟩ | exact id | exact And.right | exact And.left | exact (·.1.2) | exact (·.1.1) | exact (·.1.1.1) | exact (·.1.1.2)); exact rfl; exact rfl; exact rfl)
    | (apply Q_extract; (refine Ev.of rfl ?_; first | exact fun _ => ⟨⟩ | exact id | exact And.right | exact And.left | exact (·.1.2) | exact (·.1.1) | exact (·.1.1.1) | exact (·.1.1.2)); exact rfl)
    | (apply Q_call (room_ok b fs l i u.day hn h hl hu); (repeat (first | exact EvL.nil | refine EvL.cons (by refine Ev.of rfl ?_; first | exact fun _ => ⟨⟩ | exact id | exact And.right | exact And.left | exact (·.1.2) | exact (·.1.1) | exact (·.1.1.1) | exact (·.1.1.2)) rfl (by first | exact PSub.rfl' | exact PSub.nil') ?_)); exact rfl)
    | (apply Q_call (valid_ok u); (repeat (first | exact EvL.nil | refine EvL.cons (by refine Ev.of rfl ?_; first | exact fun _ => ⟨⟩ | exact id | exact And.right | exact And.left | exact (·.1.2) | exact (·.1.1) | exact (·.1.1.1) | exact (·.1.1.2)) rfl (by first | exact PSub.rfl' | exact PSub.nil') ?_)); exact rfl)); exact rfl)
    | (apply S_lit TYok; (repeat (first | exact EvR.nil | apply EvR.cons (by refine Ev.of rfl ?_; first | exact fun _ => ⟨⟩ | exact id | exact And.right | exact And.left | exact (·.1.2) | exact (·.1.1) | exact (·.1.1.1) | exact (·.1.1.2)))); exact rfl; exact rfl; exact rfl; exact rfl; exact rfl; exact rfl; exact rfl; exact rfl; exact rfl)
    | (apply S_append TYok; (refine Ev.of rfl ?_; first | exact fun _ => ⟨⟩ | exact id | exact And.right | exact And.left | exact (·.1.2) | exact (·.1.1) | exact (·.1.1.1) | exact (·.1.1.2)); (refine Ev.of rfl ?_; first | exact fun _ => ⟨⟩ | exact id | exact And.right | exact And.left | exact (·.1.2) | exact (·.1.1) | exact (·.1.1.1) | exact (·.1.1.2)); exact rfl; exact rfl; exact rfl; exact rfl; exact rfl; exact rfl; exact rfl; exact rfl; exact rfl; exact rfl; (constructor <;> simp <;> omega); exact rfl)
    | (apply S_append0 TYok; (refine Ev.of rfl ?_; first | exact fun _ => ⟨⟩ | exact id | exact And.right | exact And.left | exact (·.1.2) | exact (·.1.1) | exact (·.1.1.1) | exact (·.1.1.2)); (refine Ev.of rfl ?_; first | exact fun _ => ⟨⟩ | exact id | exact And.right | exact And.left | exact (·.1.2) | exact (·.1.1) | exact (·.1.1.1) | exact (·.1.1.2)); exact rfl; exact rfl; exact rfl; exact rfl; exact rfl; exact rfl; exact rfl; (constructor <;> simp <;> omega); exact rfl; exact rfl)
    | (apply S_appendd TYok; (refine Ev.of rfl ?_; first | exact fun _ => ⟨⟩ | exact id | exact And.right | exact And.left | exact (·.1.2) | exact (·.1.1) | exact (·.1.1.1) | exact (·.1.1.2)); (refine Ev.of rfl ?_; first | exact fun _ => ⟨⟩ | exact id | exact And.right | exact And.left | exact (·.1.2) | exact (·.1.1) | exact (·.1.1.1) | exact (·.1.1.2)); exact rfl; exact rfl; exact rfl; exact rfl; exact rfl; exact rfl; exact rfl; exact rfl; (intro r hr; obtain ⟨_, _, rfl⟩ := List.mem_map.1 hr; rfl); (constructor <;> simp <;> omega); exact rfl)
    | (apply S_box; (refine Ev.of rfl ?_; first | exact fun _ => ⟨⟩ | exact id | exact And.right | exact And.left | exact (·.1.2) | exact (·.1.1) | exact (·.1.1.1) | exact (·.1.1.2)); exact rfl; exact rfl; exact rfl)
    | (apply S_callo (cloneU_ok l hu); exact rfl; exact rfl; exact rfl; focus ((repeat (first | exact EvD.nil | refine EvD.cons (by refine Ev.of rfl ?_; first | exact fun _ => ⟨⟩ | exact id | exact And.right | exact And.left | exact (·.1.2) | exact (·.1.1) | exact (·.1.1.1) | exact (·.1.1.2)) (by first | exact PSub.rfl' | exact PSub.nil') ?_)); done))
    | (apply S_isnil TYok; exact rfl; exact rfl; exact rfl; (refine Ev.of rfl ?_; first | exact fun _ => ⟨⟩ | exact id | exact And.right | exact And.left | exact (·.1.2) | exact (·.1.1) | exact (·.1.1.1) | exact (·.1.1.2)); intro bn hnil)
    | (apply RG.gT; exact rfl; exact rfl; (first | assumption | decide))
    | (apply RG.gF; exact rfl; exact rfl; (first | assumption | decide); exact rfl)
    | (refine W.cond (by refine Ev.of rfl ?_; first | exact fun _ => ⟨⟩ | exact id | exact And.right | exact And.left | exact (·.1.2) | exact (·.1.1) | exact (·.1.1.1) | exact (·.1.1.2)) (fun hb => ?_) (fun hb => ?_) <;> (try simp at hb) <;> (try (exfalso; omega))))
  · have e : takeF b fs l i u = ([], 1) := by simp [takeF, hb]
    rw [e]
    exact Fin.ret (by repeat (first | exact ResL.nil | refine ResL.cons rfl rfl (by first | exact PSub.rfl' | exact PSub.nil' | (refine PSub.of_eq ?_; simp; done) | (refine PSub.of_eq ?_; simp only [List.map_append, List.map_cons, List.map_nil]; rfl) | (refine PSub.of_eq ?_; simp; rfl)) ?_))
  · have e : takeF b fs l i u = ([], (roomF b fs l i u.day).2) := by simp [takeF, ‹useF u = true›, hb]
    rw [e]
    exact Fin.ret (by repeat (first | exact ResL.nil | refine ResL.cons rfl rfl (by first | exact PSub.rfl' | exact PSub.nil' | (refine PSub.of_eq ?_; simp; done) | (refine PSub.of_eq ?_; simp only [List.map_append, List.map_cons, List.map_nil]; rfl) | (refine PSub.of_eq ?_; simp; rfl)) ?_))
  · have e : takeF b fs l i u = ([], 20) := by simp [takeF, ‹useF u = true›, ‹(roomF b fs l i u.day).2 = 0›, late_t hb]
    rw [e]
    exact Fin.ret (by repeat (first | exact ResL.nil | refine ResL.cons rfl rfl (by first | exact PSub.rfl' | exact PSub.nil' | (refine PSub.of_eq ?_; simp; done) | (refine PSub.of_eq ?_; simp only [List.map_append, List.map_cons, List.map_nil]; rfl) | (refine PSub.of_eq ?_; simp; rfl)) ?_))
  · have e : takeF b fs l i u = ([], 22) := by simp [takeF, ‹useF u = true›, ‹(roomF b fs l i u.day).2 = 0›, late_f ‹_›, hb]
    rw [e]
    exact Fin.ret (by repeat (first | exact ResL.nil | refine ResL.cons rfl rfl (by first | exact PSub.rfl' | exact PSub.nil' | (refine PSub.of_eq ?_; simp; done) | (refine PSub.of_eq ?_; simp only [List.map_append, List.map_cons, List.map_nil]; rfl) | (refine PSub.of_eq ?_; simp; rfl)) ?_))
  · have e : takeF b fs l i u = ([], 6) := by simp [takeF, ‹useF u = true›, ‹(roomF b fs l i u.day).2 = 0›, late_f ‹_›, show ¬ (roomF b fs l i u.day).1 < u.amount by omega, show l.length = 10000 by omega]
    rw [e]
    exact Fin.ret (by repeat (first | exact ResL.nil | refine ResL.cons rfl rfl (by first | exact PSub.rfl' | exact PSub.nil' | (refine PSub.of_eq ?_; simp; done) | (refine PSub.of_eq ?_; simp only [List.map_append, List.map_cons, List.map_nil]; rfl) | (refine PSub.of_eq ?_; simp; rfl)) ?_))
  all_goals
    have e : takeF b fs l i u = (l ++ [u], 0) := by simp [takeF, ‹useF u = true›, ‹(roomF b fs l i u.day).2 = 0›, late_f ‹_›, show ¬ (roomF b fs l i u.day).1 < u.amount by omega, show ¬ l.length = 10000 by omega]
    rw [e]
    exact Fin.ret (by repeat (first | exact ResL.nil | refine ResL.cons rfl rfl (by first | exact PSub.rfl' | exact PSub.nil' | (refine PSub.of_eq ?_; simp; done) | (refine PSub.of_eq ?_; simp only [List.map_append, List.map_cons, List.map_nil]; rfl) | (refine PSub.of_eq ?_; simp; rfl)) ?_))
theorem room_len {b : Basket} {fs : List Fact} {l : List Use} {i d : Int} (h : (roomF b fs l i d).2 = 0) : (l.length : Int) ≤ 10000 := by
  unfold roomF at h
  split at h
  · rename_i hh
    simp only [usesF, Bool.and_eq_true, decide_eq_true_eq] at hh
    exact hh.2.1
  · simp at h
theorem rtake_ok (b : Basket) (fs : List Fact) (l : List Use) (i : Int) (u : Use) (hn : okN b.name) (h : ∀ f ∈ fs, okN f.name) (hl : big fs.length) (hu : big l.length) : ACalls Try.prog 15 [aB b, slF fs, slU l, cI i, aU u] (lpair (takeF b fs l i u)) := by
  refine ACalls.of_W (qs := [slU (takeF b fs l i u).1, cI (takeF b fs l i u).2]) [10, 11] 58 Try.func15 (by kernel_rfl) rfl rfl rfl fun G => ?_
  apply W.init (by repeat (first | exact InitE.nil | apply InitE.c0 | apply InitE.c1 | apply InitE.c2 | apply InitE.c3 | apply InitE.c4 | apply InitE.c5 | apply InitE.c6 | apply InitE.c7 | apply InitE.c8 | apply InitE.c9 | apply InitE.c10 | apply InitE.c11))
  repeat' (first
    | apply RG.nil
    | apply Lex.nil
    | apply Then.n
    | apply Then.r
    | apply Then.x
    | apply InBlock.n
    | apply InBlock.r
    | apply InBlock.hit
    | (apply InBlock.miss; exact rfl)
    | apply W.seq
    | apply W.region
    | apply W.block
    | apply W.skip
    | apply W.ret
    | apply W.exit
    | (apply W.draw2 (id := 6) [0, 1, 3, 7, 15, 15, 47, 111, 255, 511, 1023, 15, 2063, 8191, 16383] [[2], [30], [31], [32], [2, 33], [2, 33], [35, 33], [36, 33], [34, 37, 33], [38, 33], [39, 33], [9, 33], [41, 33], [40, 42, 33], [33, 43]] 15 [(30, 4), (31, 1073741824), (32, 2147483648), (33, 4294967296), (34, 8589934596), (35, 8589934596), (36, 42949672960), (37, 77309411328), (38, 163208757248), (39, 283467841536), (40, 558345748480), (41, 8589935104), (42, 2207613190144), (43, 5506148073472), (44, 8804682956800)] mixed (by kernel_rfl) rfl rfl)
    | (refine W.drawA (id := 12) (L := [false, false, false, false, false, false, false, false]) mixed rfl ?_)
    | exact RAll.nil
    | (refine RAll.cons rfl ?_ ?_)
    | (refine RA.step (L := [false, false, false, false, false, false, false, false]) (i := 0) (is := [1, 3]) (by kernel_rfl) ?_)
    | (refine RA.step (L := [false, false, false, true, false, false, false, false]) (i := 0) (is := [1, 4]) (by kernel_rfl) ?_)
    | (refine RA.step (L := [false, false, false, true, true, false, false, false]) (i := 0) (is := [1]) (by kernel_rfl) ?_)
    | (refine RA.step (L := [false, true, false, true, true, false, false, false]) (i := 0) (is := []) (by kernel_rfl) ?_)
    | (refine RA.step (L := [true, true, false, true, true, false, false, false]) (i := 2) (is := []) (by kernel_rfl) ?_)
    | (refine RA.step (L := [true, true, true, true, true, false, false, false]) (i := 5) (is := []) (by kernel_rfl) ?_)
    | (refine RA.step (L := [true, true, true, true, true, true, false, false]) (i := 6) (is := []) (by kernel_rfl) ?_)
    | (refine RA.step (L := [true, true, true, true, true, true, true, false]) (i := 7) (is := []) (by kernel_rfl) ?_)
    | (refine RA.done (L := [true, true, true, true, true, true, true, true]) (by kernel_rfl) ?_)
    | (refine RA.step (L := [true, false, false, true, true, false, false, false]) (i := 1) (is := []) (by kernel_rfl) ?_)
    | (refine RA.step (L := [false, true, false, true, false, false, false, false]) (i := 0) (is := [4]) (by kernel_rfl) ?_)
    | (refine RA.step (L := [true, true, false, true, false, false, false, false]) (i := 2) (is := [4]) (by kernel_rfl) ?_)
    | (refine RA.step (L := [true, true, true, true, false, false, false, false]) (i := 4) (is := []) (by kernel_rfl) ?_)
    | (refine RA.step (L := [true, false, false, true, false, false, false, false]) (i := 1) (is := [4]) (by kernel_rfl) ?_)
    | (refine RA.step (L := [false, true, false, false, false, false, false, false]) (i := 0) (is := [3]) (by kernel_rfl) ?_)
    | (refine RA.step (L := [true, true, false, false, false, false, false, false]) (i := 2) (is := [3]) (by kernel_rfl) ?_)
    | (refine RA.step (L := [true, true, true, false, false, false, false, false]) (i := 3) (is := []) (by kernel_rfl) ?_)
    | (refine RA.step (L := [true, false, false, false, false, false, false, false]) (i := 1) (is := [3]) (by kernel_rfl) ?_)
    | ((first | apply U_ | (apply Ug_; exact rfl; exact rfl) | (apply Ugq_; exact rfl; exact rfl) | apply Lex.u | (apply Lex.g; exact rfl; exact rfl) | (apply Lex.gq; exact rfl; exact rfl)); (first
    | (apply Q_move; (refine Ev.of rfl ?_; first | exact fun _ => ⟨⟩ | exact id | exact And.right | exact And.left | exact (·.1.2) | exact (·.1.1) | exact (·.1.1.1) | exact (·.1.1.2)))
    | (apply Q_assign; (refine Ev.of rfl ?_; first | exact fun _ => ⟨⟩ | exact id | exact And.right | exact And.left | exact (·.1.2) | exact (·.1.1) | exact (·.1.1.1) | exact (·.1.1.2)))
    | (apply Q_fieldp TYok; (refine Ev.of rfl ?_; first | exact fun _ => ⟨⟩ | exact id | exact And.right | exact And.left | exact (·.1.2) | exact (·.1.1) | exact (·.1.1.1) | exact (·.1.1.2)); exact rfl; exact rfl; exact rfl; exact rfl; exact rfl)
    | (apply Q_field TYok; (refine Ev.of rfl ?_; first | exact fun _ => ⟨⟩ | exact id | exact And.right | exact And.left | exact (·.1.2) | exact (·.1.1) | exact (·.1.1.1) | exact (·.1.1.2)); exact rfl; exact rfl; exact rfl; exact rfl; exact rfl)
    | (apply Q_loadp TYok; exact rfl; exact rfl; (refine Ev.of rfl ?_; first | exact fun _ => ⟨⟩ | exact id | exact And.right | exact And.left | exact (·.1.2) | exact (·.1.1) | exact (·.1.1.1) | exact (·.1.1.2)); exact rfl)
    | (apply Q_load TYok; exact rfl; exact rfl; (refine Ev.of rfl ?_; first | exact fun _ => ⟨⟩ | exact id | exact And.right | exact And.left | exact (·.1.2) | exact (·.1.1) | exact (·.1.1.1) | exact (·.1.1.2)); exact rfl; exact rfl; exact rfl)
    | (apply Q_loadm TYok; exact rfl; exact rfl; (refine Ev.of rfl ?_; first | exact fun _ => ⟨⟩ | exact id | exact And.right | exact And.left | exact (·.1.2) | exact (·.1.1) | exact (·.1.1.1) | exact (·.1.1.2)); exact rfl; (intro hg; first | omega | (simp; omega) | (simp at hg; simp; omega)); exact rfl; infer_instance)
    | (apply Q_loadpa TYok; exact rfl; exact rfl; (refine Ev.of rfl ?_; first | exact fun _ => ⟨⟩ | exact id | exact And.right | exact And.left | exact (·.1.2) | exact (·.1.1) | exact (·.1.1.1) | exact (·.1.1.2)); exact rfl)
    | (apply Q_loada TYok; exact rfl; exact rfl; (refine Ev.of rfl ?_; first | exact fun _ => ⟨⟩ | exact id | exact And.right | exact And.left | exact (·.1.2) | exact (·.1.1) | exact (·.1.1.1) | exact (·.1.1.2)); exact rfl; exact rfl; exact rfl)
    | (apply Q_loadma TYok; exact rfl; exact rfl; (refine Ev.of rfl ?_; first | exact fun _ => ⟨⟩ | exact id | exact And.right | exact And.left | exact (·.1.2) | exact (·.1.1) | exact (·.1.1.1) | exact (·.1.1.2)); exact rfl; (intro hg; first | omega | (simp; omega) | (simp at hg; simp; omega)); exact rfl; infer_instance)
    | (apply Q_sub; (refine Ev.of rfl ?_; first | exact fun _ => ⟨⟩ | exact id | exact And.right | exact And.left | exact (·.1.2) | exact (·.1.1) | exact (·.1.1.1) | exact (·.1.1.2)); (refine Ev.of rfl ?_; first | exact fun _ => ⟨⟩ | exact id | exact And.right | exact And.left | exact (·.1.2) | exact (·.1.1) | exact (·.1.1.1) | exact (·.1.1.2)); (first | omega | (constructor <;> omega)))
    | (apply Q_bin; (refine Ev.of rfl ?_; first | exact fun _ => ⟨⟩ | exact id | exact And.right | exact And.left | exact (·.1.2) | exact (·.1.1) | exact (·.1.1.1) | exact (·.1.1.2)); (refine Ev.of rfl ?_; first | exact fun _ => ⟨⟩ | exact id | exact And.right | exact And.left | exact (·.1.2) | exact (·.1.1) | exact (·.1.1.1) | exact (·.1.1.2)); exact rfl)
    | (apply Q_or; (refine Ev.of rfl ?_; first | exact fun _ => ⟨⟩ | exact id | exact And.right | exact And.left | exact (·.1.2) | exact (·.1.1) | exact (·.1.1.1) | exact (·.1.1.2)); (refine Ev.of rfl ?_; first | exact fun _ => ⟨⟩ | exact id | exact And.right | exact And.left | exact (·.1.2) | exact (·.1.1) | exact (·.1.1.1) | exact (·.1.1.2)))
    | (apply Q_and; (refine Ev.of rfl ?_; first | exact fun _ => ⟨⟩ | exact id | exact And.right | exact And.left | exact (·.1.2) | exact (·.1.1) | exact (·.1.1.1) | exact (·.1.1.2)); (refine Ev.of rfl ?_; first | exact fun _ => ⟨⟩ | exact id | exact And.right | exact And.left | exact (·.1.2) | exact (·.1.1) | exact (·.1.1.1) | exact (·.1.1.2)))
    | (apply Q_not; (refine Ev.of rfl ?_; first | exact fun _ => ⟨⟩ | exact id | exact And.right | exact And.left | exact (·.1.2) | exact (·.1.1) | exact (·.1.1.1) | exact (·.1.1.2)))
    | (apply Q_lenm TYok; (refine Ev.of rfl ?_; first | exact fun _ => ⟨⟩ | exact id | exact And.right | exact And.left | exact (·.1.2) | exact (·.1.1) | exact (·.1.1.1) | exact (·.1.1.2)); exact rfl; exact rfl)
    | (apply Q_lend TYok; (refine Ev.of rfl ?_; first | exact fun _ => ⟨⟩ | exact id | exact And.right | exact And.left | exact (·.1.2) | exact (·.1.1) | exact (·.1.1.1) | exact (·.1.1.2)); exact rfl; exact rfl)
    | (apply Q_lenom TYok; (refine Ev.of rfl ?_; first | exact fun _ => ⟨⟩ | exact id | exact And.right | exact And.left | exact (·.1.2) | exact (·.1.1) | exact (·.1.1.1) | exact (·.1.1.2)); exact rfl; exact rfl; exact rfl)
    | (apply Q_len TYok; (refine Ev.of rfl ?_; first | exact fun _ => ⟨⟩ | exact id | exact And.right | exact And.left | exact (·.1.2) | exact (·.1.1) | exact (·.1.1.1) | exact (·.1.1.2)); exact rfl; exact rfl; exact rfl)
    | (apply Q_len0 TYok; (refine Ev.of rfl ?_; first | exact fun _ => ⟨⟩ | exact id | exact And.right | exact And.left | exact (·.1.2) | exact (·.1.1) | exact (·.1.1.1) | exact (·.1.1.2)); exact rfl; exact rfl)
    | (apply Q_lens TYok; (refine Ev.of rfl ?_; first | exact fun _ => ⟨⟩ | exact id | exact And.right | exact And.left | exact (·.1.2) | exact (·.1.1) | exact (·.1.1.1) | exact (·.1.1.2)); exact rfl; exact rfl)
    | (apply Q_indexd TYok; (refine Ev.of rfl ?_; first | exact fun _ => ⟨⟩ | exact id | exact And.right | exact And.left | exact (·.1.2) | exact (·.1.1) | exact (·.1.1.1) | exact (·.1.1.2)); (refine Ev.of rfl ?_; first | exact fun _ => ⟨⟩ | exact id | exact And.right | exact And.left | exact (·.1.2) | exact (·.1.1) | exact (·.1.1.1) | exact (·.1.1.2)); exact rfl; exact rfl; exact rfl; (intro hg; first | exact getRowN (by first | omega | (simp at hg; omega)) | exact getRowI (by first | omega | (simp at hg; omega))); exact rfl)
    | (apply Q_index TYok; (refine Ev.of rfl ?_; first | exact fun _ => ⟨⟩ | exact id | exact And.right | exact And.left | exact (·.1.2) | exact (·.1.1) | exact (·.1.1.1) | exact (·.1.1.2)); (refine Ev.of rfl ?_; first | exact fun _ => ⟨⟩ | exact id | exact And.right | exact And.left | exact (·.1.2) | exact (·.1.1) | exact (·.1.1.1) | exact (·.1.1.2)); exact rfl; exact rfl; exact rfl; exact rfl; exact rfl; (intro hg; first | (simp; omega) | (simp at hg; simp; omega)))
    | (apply Q_binS; (refine Ev.of rfl ?_; first | exact fun _ => ⟨⟩ | exact id | exact And.right | exact And.left | exact (·.1.2) | exact (·.1.1) | exact (·.1.1.1) | exact (·.1.1.2)); (refine Ev.of rfl ?_; first | exact fun _ => ⟨⟩ | exact id | exact And.right | exact And.left | exact (·.1.2) | exact (·.1.1) | exact (·.1.1.1) | exact (·.1.1.2)); exact rfl)
    | (apply Q_binB TYok; (refine Ev.of rfl ?_; first | exact fun _ => ⟨⟩ | exact id | exact And.right | exact And.left | exact (·.1.2) | exact (·.1.1) | exact (·.1.1.1) | exact (·.1.1.2)); (refine Ev.of rfl ?_; first | exact fun _ => ⟨⟩ | exact id | exact And.right | exact And.left | exact (·.1.2) | exact (·.1.1) | exact (·.1.1.1) | exact (·.1.1.2)); exact rfl; exact rfl; exact rfl)
    | (apply Q_extract; (refine Ev.of rfl ?_; first | exact fun _ => ⟨⟩ | exact id | exact And.right | exact And.left | exact (·.1.2) | exact (·.1.1) | exact (·.1.1.1) | exact (·.1.1.2)); exact rfl)
    | (apply Q_call (rroom_ok b fs l i u.day hn h hl hu); (repeat (first | exact EvL.nil | refine EvL.cons (by refine Ev.of rfl ?_; first | exact fun _ => ⟨⟩ | exact id | exact And.right | exact And.left | exact (·.1.2) | exact (·.1.1) | exact (·.1.1.1) | exact (·.1.1.2)) rfl (by first | exact PSub.rfl' | exact PSub.nil') ?_)); exact rfl)
    | (apply Q_call (ruse_ok u); (repeat (first | exact EvL.nil | refine EvL.cons (by refine Ev.of rfl ?_; first | exact fun _ => ⟨⟩ | exact id | exact And.right | exact And.left | exact (·.1.2) | exact (·.1.1) | exact (·.1.1.1) | exact (·.1.1.2)) rfl (by first | exact PSub.rfl' | exact PSub.nil') ?_)); exact rfl)); exact rfl)
    | (apply S_lit TYok; (repeat (first | exact EvR.nil | apply EvR.cons (by refine Ev.of rfl ?_; first | exact fun _ => ⟨⟩ | exact id | exact And.right | exact And.left | exact (·.1.2) | exact (·.1.1) | exact (·.1.1.1) | exact (·.1.1.2)))); exact rfl; exact rfl; exact rfl; exact rfl; exact rfl; exact rfl; exact rfl; exact rfl; exact rfl)
    | (apply S_append TYok; (refine Ev.of rfl ?_; first | exact fun _ => ⟨⟩ | exact id | exact And.right | exact And.left | exact (·.1.2) | exact (·.1.1) | exact (·.1.1.1) | exact (·.1.1.2)); (refine Ev.of rfl ?_; first | exact fun _ => ⟨⟩ | exact id | exact And.right | exact And.left | exact (·.1.2) | exact (·.1.1) | exact (·.1.1.1) | exact (·.1.1.2)); exact rfl; exact rfl; exact rfl; exact rfl; exact rfl; exact rfl; exact rfl; exact rfl; exact rfl; exact rfl; (constructor <;> simp <;> omega); exact rfl)
    | (apply S_append0 TYok; (refine Ev.of rfl ?_; first | exact fun _ => ⟨⟩ | exact id | exact And.right | exact And.left | exact (·.1.2) | exact (·.1.1) | exact (·.1.1.1) | exact (·.1.1.2)); (refine Ev.of rfl ?_; first | exact fun _ => ⟨⟩ | exact id | exact And.right | exact And.left | exact (·.1.2) | exact (·.1.1) | exact (·.1.1.1) | exact (·.1.1.2)); exact rfl; exact rfl; exact rfl; exact rfl; exact rfl; exact rfl; exact rfl; (constructor <;> simp <;> omega); exact rfl; exact rfl)
    | (apply S_appendd TYok; (refine Ev.of rfl ?_; first | exact fun _ => ⟨⟩ | exact id | exact And.right | exact And.left | exact (·.1.2) | exact (·.1.1) | exact (·.1.1.1) | exact (·.1.1.2)); (refine Ev.of rfl ?_; first | exact fun _ => ⟨⟩ | exact id | exact And.right | exact And.left | exact (·.1.2) | exact (·.1.1) | exact (·.1.1.1) | exact (·.1.1.2)); exact rfl; exact rfl; exact rfl; exact rfl; exact rfl; exact rfl; exact rfl; exact rfl; (intro r hr; obtain ⟨_, _, rfl⟩ := List.mem_map.1 hr; rfl); (constructor <;> simp <;> omega); exact rfl)
    | (apply S_box; (refine Ev.of rfl ?_; first | exact fun _ => ⟨⟩ | exact id | exact And.right | exact And.left | exact (·.1.2) | exact (·.1.1) | exact (·.1.1.1) | exact (·.1.1.2)); exact rfl; exact rfl; exact rfl)
    | (apply RG.gT; exact rfl; exact rfl; (first | assumption | decide))
    | (apply RG.gF; exact rfl; exact rfl; (first | assumption | decide); exact rfl)
    | (refine W.cond (by refine Ev.of rfl ?_; first | exact fun _ => ⟨⟩ | exact id | exact And.right | exact And.left | exact (·.1.2) | exact (·.1.1) | exact (·.1.1.1) | exact (·.1.1.2)) (fun hb => ?_) (fun hb => ?_) <;> (try simp at hb) <;> (try (exfalso; omega))))
  · have e : takeF b fs l i u = ([], 1) := by simp [takeF, hb]
    rw [e]
    exact Fin.ret (by repeat (first | exact ResL.nil | refine ResL.cons rfl rfl (by first | exact PSub.rfl' | exact PSub.nil' | (refine PSub.of_eq ?_; simp; done) | (refine PSub.of_eq ?_; simp only [List.map_append, List.map_cons, List.map_nil]; rfl) | (refine PSub.of_eq ?_; simp; rfl)) ?_))
  · have e : takeF b fs l i u = ([], (roomF b fs l i u.day).2) := by simp [takeF, ‹useF u = true›, hb]
    rw [e]
    exact Fin.ret (by repeat (first | exact ResL.nil | refine ResL.cons rfl rfl (by first | exact PSub.rfl' | exact PSub.nil' | (refine PSub.of_eq ?_; simp; done) | (refine PSub.of_eq ?_; simp only [List.map_append, List.map_cons, List.map_nil]; rfl) | (refine PSub.of_eq ?_; simp; rfl)) ?_))
  · have e : takeF b fs l i u = ([], 20) := by simp [takeF, ‹useF u = true›, ‹(roomF b fs l i u.day).2 = 0›, late_t hb]
    rw [e]
    exact Fin.ret (by repeat (first | exact ResL.nil | refine ResL.cons rfl rfl (by first | exact PSub.rfl' | exact PSub.nil' | (refine PSub.of_eq ?_; simp; done) | (refine PSub.of_eq ?_; simp only [List.map_append, List.map_cons, List.map_nil]; rfl) | (refine PSub.of_eq ?_; simp; rfl)) ?_))
  · have e : takeF b fs l i u = ([], 22) := by simp [takeF, ‹useF u = true›, ‹(roomF b fs l i u.day).2 = 0›, late_f ‹_›, hb]
    rw [e]
    exact Fin.ret (by repeat (first | exact ResL.nil | refine ResL.cons rfl rfl (by first | exact PSub.rfl' | exact PSub.nil' | (refine PSub.of_eq ?_; simp; done) | (refine PSub.of_eq ?_; simp only [List.map_append, List.map_cons, List.map_nil]; rfl) | (refine PSub.of_eq ?_; simp; rfl)) ?_))
  · have e : takeF b fs l i u = ([], 6) := by simp [takeF, ‹useF u = true›, ‹(roomF b fs l i u.day).2 = 0›, late_f ‹_›, show ¬ (roomF b fs l i u.day).1 < u.amount by omega, show l.length = 10000 by have := room_len ‹(roomF b fs l i u.day).2 = 0›; omega]
    rw [e]
    exact Fin.ret (by repeat (first | exact ResL.nil | refine ResL.cons rfl rfl (by first | exact PSub.rfl' | exact PSub.nil' | (refine PSub.of_eq ?_; simp; done) | (refine PSub.of_eq ?_; simp only [List.map_append, List.map_cons, List.map_nil]; rfl) | (refine PSub.of_eq ?_; simp; rfl)) ?_))
  all_goals
    have e : takeF b fs l i u = (l ++ [u], 0) := by simp [takeF, ‹useF u = true›, ‹(roomF b fs l i u.day).2 = 0›, late_f ‹_›, show ¬ (roomF b fs l i u.day).1 < u.amount by omega, show ¬ l.length = 10000 by omega]
    rw [e]
    exact Fin.ret (by repeat (first | exact ResL.nil | refine ResL.cons rfl rfl (by first | exact PSub.rfl' | exact PSub.nil' | (refine PSub.of_eq ?_; simp; done) | (refine PSub.of_eq ?_; simp only [List.map_append, List.map_cons, List.map_nil]; rfl) | (refine PSub.of_eq ?_; simp; rfl)) ?_))

def earlyF (l : List Fact) (x : Fact) : Bool := decide (0 < l.length) && decide (x.day < (nth l (l.length - 1)).day)
theorem early_t {l : List Fact} {u : Fact} (h : 0 < l.length ∧ u.day < (nth l (l.length - 1)).day) : earlyF l u = true := by simp [earlyF, h.1, h.2]
theorem early_f {l : List Fact} {u : Fact} (h : 0 < l.length → (nth l (l.length - 1)).day ≤ u.day) : earlyF l u = false := by
  by_cases hl : 0 < l.length
  · simp [earlyF, hl, h hl]
  · simp [earlyF, hl]
def addF (l : List Fact) (x : Fact) : List Fact × Int :=
  if (factsF l && oneF x) = false then ([], 1) else if earlyF l x then ([], 20) else if (l.length : Int) ≥ 10000 then ([], 6) else (l ++ [x], 0)
theorem add_ok (l : List Fact) (x : Fact) (h : ∀ f ∈ l, okN f.name) (hx : okN x.name) (hl : big l.length) : ACalls Try.prog 21 [slF l, aF x] (.tup [slF (addF l x).1, cI (addF l x).2]) := by
  refine ACalls.of_W (qs := [slF (addF l x).1, cI (addF l x).2]) [4, 5] 40 Try.func21 (by kernel_rfl) rfl rfl rfl fun G => ?_
  apply W.init (by repeat (first | exact InitE.nil | apply InitE.c0 | apply InitE.c1 | apply InitE.c2 | apply InitE.c3 | apply InitE.c4 | apply InitE.c5 | apply InitE.c6 | apply InitE.c7 | apply InitE.c8 | apply InitE.c9 | apply InitE.c10 | apply InitE.c11))
  repeat' (first
    | apply RG.nil
    | apply Lex.nil
    | apply Then.n
    | apply Then.r
    | apply Then.x
    | apply InBlock.n
    | apply InBlock.r
    | apply InBlock.hit
    | (apply InBlock.miss; exact rfl)
    | apply W.seq
    | apply W.region
    | apply W.block
    | apply W.skip
    | apply W.ret
    | apply W.exit
    | (apply W.draw2 (id := 4) [0, 1, 3, 7, 15, 7, 7, 71, 231, 487, 999, 2047, 4095, 8191] [[6], [19], [20], [3, 21], [22, 21], [0, 21], [6, 21], [25, 21], [24, 26, 21], [27, 21], [28, 21], [23, 29, 21], [21, 30], [31]] 14 [(19, 64), (20, 524288), (21, 1048576), (22, 2097160), (23, 6291456), (24, 2097153), (25, 2097216), (26, 35651584), (27, 85983232), (28, 136314880), (29, 270532608), (30, 547356672), (31, 1075838976), (18, 2147483648)] mixed (by kernel_rfl) rfl rfl)
    | (refine W.drawA (id := 8) (L := [false, false, false, false, false, false, false]) mixed rfl ?_)
    | exact RAll.nil
    | (refine RAll.cons rfl ?_ ?_)
    | (refine RA.step (L := [false, false, false, false, false, false, false]) (i := 0) (is := [2]) (by kernel_rfl) ?_)
    | (refine RA.step (L := [false, false, true, false, false, false, false]) (i := 0) (is := [3]) (by kernel_rfl) ?_)
    | (refine RA.step (L := [false, false, true, true, false, false, false]) (i := 0) (is := []) (by kernel_rfl) ?_)
    | (refine RA.step (L := [true, false, true, true, false, false, false]) (i := 1) (is := []) (by kernel_rfl) ?_)
    | (refine RA.step (L := [true, true, true, true, false, false, false]) (i := 4) (is := []) (by kernel_rfl) ?_)
    | (refine RA.step (L := [true, true, true, true, true, false, false]) (i := 5) (is := []) (by kernel_rfl) ?_)
    | (refine RA.step (L := [true, true, true, true, true, true, false]) (i := 6) (is := []) (by kernel_rfl) ?_)
    | (refine RA.done (L := [true, true, true, true, true, true, true]) (by kernel_rfl) ?_)
    | (refine RA.step (L := [true, false, true, false, false, false, false]) (i := 1) (is := [3]) (by kernel_rfl) ?_)
    | (refine RA.step (L := [true, true, true, false, false, false, false]) (i := 3) (is := []) (by kernel_rfl) ?_)
    | (refine RA.step (L := [true, false, false, false, false, false, false]) (i := 1) (is := [2]) (by kernel_rfl) ?_)
    | (refine RA.step (L := [true, true, false, false, false, false, false]) (i := 2) (is := []) (by kernel_rfl) ?_)
    | ((first | apply U_ | (apply Ug_; exact rfl; exact rfl) | (apply Ugq_; exact rfl; exact rfl) | apply Lex.u | (apply Lex.g; exact rfl; exact rfl) | (apply Lex.gq; exact rfl; exact rfl)); (first
    | (apply Q_move; (refine Ev.of rfl ?_; first | exact fun _ => ⟨⟩ | exact id | exact And.right | exact And.left | exact (·.1.2) | exact (·.1.1) | exact (·.1.1.1) | exact (·.1.1.2)))
    | (apply Q_assign; (refine Ev.of rfl ?_; first | exact fun _ => ⟨⟩ | exact id | exact And.right | exact And.left | exact (·.1.2) | exact (·.1.1) | exact (·.1.1.1) | exact (·.1.1.2)))
    | (apply Q_fieldp TYok; (refine Ev.of rfl ?_; first | exact fun _ => ⟨⟩ | exact id | exact And.right | exact And.left | exact (·.1.2) | exact (·.1.1) | exact (·.1.1.1) | exact (·.1.1.2)); exact rfl; exact rfl; exact rfl; exact rfl; exact rfl)
    | (apply Q_field TYok; (refine Ev.of rfl ?_; first | exact fun _ => ⟨⟩ | exact id | exact And.right | exact And.left | exact (·.1.2) | exact (·.1.1) | exact (·.1.1.1) | exact (·.1.1.2)); exact rfl; exact rfl; exact rfl; exact rfl; exact rfl)
    | (apply Q_loadp TYok; exact rfl; exact rfl; (refine Ev.of rfl ?_; first | exact fun _ => ⟨⟩ | exact id | exact And.right | exact And.left | exact (·.1.2) | exact (·.1.1) | exact (·.1.1.1) | exact (·.1.1.2)); exact rfl)
    | (apply Q_load TYok; exact rfl; exact rfl; (refine Ev.of rfl ?_; first | exact fun _ => ⟨⟩ | exact id | exact And.right | exact And.left | exact (·.1.2) | exact (·.1.1) | exact (·.1.1.1) | exact (·.1.1.2)); exact rfl; exact rfl; exact rfl)
    | (apply Q_loadm TYok; exact rfl; exact rfl; (refine Ev.of rfl ?_; first | exact fun _ => ⟨⟩ | exact id | exact And.right | exact And.left | exact (·.1.2) | exact (·.1.1) | exact (·.1.1.1) | exact (·.1.1.2)); exact rfl; (intro hg; first | omega | (simp; omega) | (simp at hg; simp; omega)); exact rfl; infer_instance)
    | (apply Q_loadpa TYok; exact rfl; exact rfl; (refine Ev.of rfl ?_; first | exact fun _ => ⟨⟩ | exact id | exact And.right | exact And.left | exact (·.1.2) | exact (·.1.1) | exact (·.1.1.1) | exact (·.1.1.2)); exact rfl)
    | (apply Q_loada TYok; exact rfl; exact rfl; (refine Ev.of rfl ?_; first | exact fun _ => ⟨⟩ | exact id | exact And.right | exact And.left | exact (·.1.2) | exact (·.1.1) | exact (·.1.1.1) | exact (·.1.1.2)); exact rfl; exact rfl; exact rfl)
    | (apply Q_loadma TYok; exact rfl; exact rfl; (refine Ev.of rfl ?_; first | exact fun _ => ⟨⟩ | exact id | exact And.right | exact And.left | exact (·.1.2) | exact (·.1.1) | exact (·.1.1.1) | exact (·.1.1.2)); exact rfl; (intro hg; first | omega | (simp; omega) | (simp at hg; simp; omega)); exact rfl; infer_instance)
    | (apply Q_sub; (refine Ev.of rfl ?_; first | exact fun _ => ⟨⟩ | exact id | exact And.right | exact And.left | exact (·.1.2) | exact (·.1.1) | exact (·.1.1.1) | exact (·.1.1.2)); (refine Ev.of rfl ?_; first | exact fun _ => ⟨⟩ | exact id | exact And.right | exact And.left | exact (·.1.2) | exact (·.1.1) | exact (·.1.1.1) | exact (·.1.1.2)); (first | omega | (constructor <;> omega)))
    | (apply Q_bin; (refine Ev.of rfl ?_; first | exact fun _ => ⟨⟩ | exact id | exact And.right | exact And.left | exact (·.1.2) | exact (·.1.1) | exact (·.1.1.1) | exact (·.1.1.2)); (refine Ev.of rfl ?_; first | exact fun _ => ⟨⟩ | exact id | exact And.right | exact And.left | exact (·.1.2) | exact (·.1.1) | exact (·.1.1.1) | exact (·.1.1.2)); exact rfl)
    | (apply Q_or; (refine Ev.of rfl ?_; first | exact fun _ => ⟨⟩ | exact id | exact And.right | exact And.left | exact (·.1.2) | exact (·.1.1) | exact (·.1.1.1) | exact (·.1.1.2)); (refine Ev.of rfl ?_; first | exact fun _ => ⟨⟩ | exact id | exact And.right | exact And.left | exact (·.1.2) | exact (·.1.1) | exact (·.1.1.1) | exact (·.1.1.2)))
    | (apply Q_and; (refine Ev.of rfl ?_; first | exact fun _ => ⟨⟩ | exact id | exact And.right | exact And.left | exact (·.1.2) | exact (·.1.1) | exact (·.1.1.1) | exact (·.1.1.2)); (refine Ev.of rfl ?_; first | exact fun _ => ⟨⟩ | exact id | exact And.right | exact And.left | exact (·.1.2) | exact (·.1.1) | exact (·.1.1.1) | exact (·.1.1.2)))
    | (apply Q_not; (refine Ev.of rfl ?_; first | exact fun _ => ⟨⟩ | exact id | exact And.right | exact And.left | exact (·.1.2) | exact (·.1.1) | exact (·.1.1.1) | exact (·.1.1.2)))
    | (apply Q_lenm TYok; (refine Ev.of rfl ?_; first | exact fun _ => ⟨⟩ | exact id | exact And.right | exact And.left | exact (·.1.2) | exact (·.1.1) | exact (·.1.1.1) | exact (·.1.1.2)); exact rfl; exact rfl)
    | (apply Q_lend TYok; (refine Ev.of rfl ?_; first | exact fun _ => ⟨⟩ | exact id | exact And.right | exact And.left | exact (·.1.2) | exact (·.1.1) | exact (·.1.1.1) | exact (·.1.1.2)); exact rfl; exact rfl)
    | (apply Q_lenom TYok; (refine Ev.of rfl ?_; first | exact fun _ => ⟨⟩ | exact id | exact And.right | exact And.left | exact (·.1.2) | exact (·.1.1) | exact (·.1.1.1) | exact (·.1.1.2)); exact rfl; exact rfl; exact rfl)
    | (apply Q_len TYok; (refine Ev.of rfl ?_; first | exact fun _ => ⟨⟩ | exact id | exact And.right | exact And.left | exact (·.1.2) | exact (·.1.1) | exact (·.1.1.1) | exact (·.1.1.2)); exact rfl; exact rfl; exact rfl)
    | (apply Q_len0 TYok; (refine Ev.of rfl ?_; first | exact fun _ => ⟨⟩ | exact id | exact And.right | exact And.left | exact (·.1.2) | exact (·.1.1) | exact (·.1.1.1) | exact (·.1.1.2)); exact rfl; exact rfl)
    | (apply Q_lens TYok; (refine Ev.of rfl ?_; first | exact fun _ => ⟨⟩ | exact id | exact And.right | exact And.left | exact (·.1.2) | exact (·.1.1) | exact (·.1.1.1) | exact (·.1.1.2)); exact rfl; exact rfl)
    | (apply Q_indexd TYok; (refine Ev.of rfl ?_; first | exact fun _ => ⟨⟩ | exact id | exact And.right | exact And.left | exact (·.1.2) | exact (·.1.1) | exact (·.1.1.1) | exact (·.1.1.2)); (refine Ev.of rfl ?_; first | exact fun _ => ⟨⟩ | exact id | exact And.right | exact And.left | exact (·.1.2) | exact (·.1.1) | exact (·.1.1.1) | exact (·.1.1.2)); exact rfl; exact rfl; exact rfl; (intro hg; first | exact getRowN (by first | omega | (simp at hg; omega)) | exact getRowI (by first | omega | (simp at hg; omega))); exact rfl)
    | (apply Q_index TYok; (refine Ev.of rfl ?_; first | exact fun _ => ⟨⟩ | exact id | exact And.right | exact And.left | exact (·.1.2) | exact (·.1.1) | exact (·.1.1.1) | exact (·.1.1.2)); (refine Ev.of rfl ?_; first | exact fun _ => ⟨⟩ | exact id | exact And.right | exact And.left | exact (·.1.2) | exact (·.1.1) | exact (·.1.1.1) | exact (·.1.1.2)); exact rfl; exact rfl; exact rfl; exact rfl; exact rfl; (intro hg; first | (simp; omega) | (simp at hg; simp; omega)))
    | (apply Q_binS; (refine Ev.of rfl ?_; first | exact fun _ => ⟨⟩ | exact id | exact And.right | exact And.left | exact (·.1.2) | exact (·.1.1) | exact (·.1.1.1) | exact (·.1.1.2)); (refine Ev.of rfl ?_; first | exact fun _ => ⟨⟩ | exact id | exact And.right | exact And.left | exact (·.1.2) | exact (·.1.1) | exact (·.1.1.1) | exact (·.1.1.2)); exact rfl)
    | (apply Q_call (facts_ok l h hl); (repeat (first | exact EvL.nil | refine EvL.cons (by refine Ev.of rfl ?_; first | exact fun _ => ⟨⟩ | exact id | exact And.right | exact And.left | exact (·.1.2) | exact (·.1.1) | exact (·.1.1.1) | exact (·.1.1.2)) rfl (by first | exact PSub.rfl' | exact PSub.nil') ?_)); exact rfl)
    | (apply Q_call (one_ok x hx); (repeat (first | exact EvL.nil | refine EvL.cons (by refine Ev.of rfl ?_; first | exact fun _ => ⟨⟩ | exact id | exact And.right | exact And.left | exact (·.1.2) | exact (·.1.1) | exact (·.1.1.1) | exact (·.1.1.2)) rfl (by first | exact PSub.rfl' | exact PSub.nil') ?_)); exact rfl)); exact rfl)
    | (apply S_lit TYok; (repeat (first | exact EvR.nil | apply EvR.cons (by refine Ev.of rfl ?_; first | exact fun _ => ⟨⟩ | exact id | exact And.right | exact And.left | exact (·.1.2) | exact (·.1.1) | exact (·.1.1.1) | exact (·.1.1.2)))); exact rfl; exact rfl; exact rfl; exact rfl; exact rfl; exact rfl; exact rfl; exact rfl; exact rfl)
    | (apply S_append TYok; (refine Ev.of rfl ?_; first | exact fun _ => ⟨⟩ | exact id | exact And.right | exact And.left | exact (·.1.2) | exact (·.1.1) | exact (·.1.1.1) | exact (·.1.1.2)); (refine Ev.of rfl ?_; first | exact fun _ => ⟨⟩ | exact id | exact And.right | exact And.left | exact (·.1.2) | exact (·.1.1) | exact (·.1.1.1) | exact (·.1.1.2)); exact rfl; exact rfl; exact rfl; exact rfl; exact rfl; exact rfl; exact rfl; exact rfl; exact rfl; exact rfl; (constructor <;> simp <;> omega); exact rfl)
    | (apply S_append0 TYok; (refine Ev.of rfl ?_; first | exact fun _ => ⟨⟩ | exact id | exact And.right | exact And.left | exact (·.1.2) | exact (·.1.1) | exact (·.1.1.1) | exact (·.1.1.2)); (refine Ev.of rfl ?_; first | exact fun _ => ⟨⟩ | exact id | exact And.right | exact And.left | exact (·.1.2) | exact (·.1.1) | exact (·.1.1.1) | exact (·.1.1.2)); exact rfl; exact rfl; exact rfl; exact rfl; exact rfl; exact rfl; exact rfl; (constructor <;> simp <;> omega); exact rfl; exact rfl)
    | (apply S_appendd TYok; (refine Ev.of rfl ?_; first | exact fun _ => ⟨⟩ | exact id | exact And.right | exact And.left | exact (·.1.2) | exact (·.1.1) | exact (·.1.1.1) | exact (·.1.1.2)); (refine Ev.of rfl ?_; first | exact fun _ => ⟨⟩ | exact id | exact And.right | exact And.left | exact (·.1.2) | exact (·.1.1) | exact (·.1.1.1) | exact (·.1.1.2)); exact rfl; exact rfl; exact rfl; exact rfl; exact rfl; exact rfl; exact rfl; exact rfl; (intro r hr; obtain ⟨_, _, rfl⟩ := List.mem_map.1 hr; rfl); (constructor <;> simp <;> omega); exact rfl)
    | (apply S_box; (refine Ev.of rfl ?_; first | exact fun _ => ⟨⟩ | exact id | exact And.right | exact And.left | exact (·.1.2) | exact (·.1.1) | exact (·.1.1.1) | exact (·.1.1.2)); exact rfl; exact rfl; exact rfl)
    | (apply S_callo (cloneF_ok l hl); exact rfl; exact rfl; exact rfl; focus ((repeat (first | exact EvD.nil | refine EvD.cons (by refine Ev.of rfl ?_; first | exact fun _ => ⟨⟩ | exact id | exact And.right | exact And.left | exact (·.1.2) | exact (·.1.1) | exact (·.1.1.1) | exact (·.1.1.2)) (by first | exact PSub.rfl' | exact PSub.nil') ?_)); done))
    | (apply RG.gT; exact rfl; exact rfl; (first | assumption | decide))
    | (apply RG.gF; exact rfl; exact rfl; (first | assumption | decide); exact rfl)
    | (refine W.cond (by refine Ev.of rfl ?_; first | exact fun _ => ⟨⟩ | exact id | exact And.right | exact And.left | exact (·.1.2) | exact (·.1.1) | exact (·.1.1.1) | exact (·.1.1.2)) (fun hb => ?_) (fun hb => ?_) <;> (try simp at hb) <;> (try (exfalso; omega))))
  · have e : addF l x = ([], 1) := by
      rcases hb with h | h <;> simp [addF, h]
    rw [e]
    exact Fin.ret (by repeat (first | exact ResL.nil | refine ResL.cons rfl rfl (by first | exact PSub.rfl' | exact PSub.nil' | (refine PSub.of_eq ?_; simp; done) | (refine PSub.of_eq ?_; simp only [List.map_append, List.map_cons, List.map_nil]; rfl) | (refine PSub.of_eq ?_; simp; rfl)) ?_))
  · have e : addF l x = ([], 20) := by simp [addF, ‹factsF l = true ∧ oneF x = true›.1, ‹factsF l = true ∧ oneF x = true›.2, early_t hb]
    rw [e]
    exact Fin.ret (by repeat (first | exact ResL.nil | refine ResL.cons rfl rfl (by first | exact PSub.rfl' | exact PSub.nil' | (refine PSub.of_eq ?_; simp; done) | (refine PSub.of_eq ?_; simp only [List.map_append, List.map_cons, List.map_nil]; rfl) | (refine PSub.of_eq ?_; simp; rfl)) ?_))
  · have e : addF l x = ([], 6) := by simp [addF, ‹factsF l = true ∧ oneF x = true›.1, ‹factsF l = true ∧ oneF x = true›.2, early_f ‹_›, show (l.length : Int) ≥ 10000 by omega]
    rw [e]
    exact Fin.ret (by repeat (first | exact ResL.nil | refine ResL.cons rfl rfl (by first | exact PSub.rfl' | exact PSub.nil' | (refine PSub.of_eq ?_; simp; done) | (refine PSub.of_eq ?_; simp only [List.map_append, List.map_cons, List.map_nil]; rfl) | (refine PSub.of_eq ?_; simp; rfl)) ?_))
  all_goals
    have e : addF l x = (l ++ [x], 0) := by simp [addF, ‹factsF l = true ∧ oneF x = true›.1, ‹factsF l = true ∧ oneF x = true›.2, early_f ‹_›, show ¬ (10000 ≤ (l.length : Int)) by omega]
    rw [e]
    exact Fin.ret (by repeat (first | exact ResL.nil | refine ResL.cons rfl rfl (by first | exact PSub.rfl' | exact PSub.nil' | (refine PSub.of_eq ?_; simp; done) | (refine PSub.of_eq ?_; simp only [List.map_append, List.map_cons, List.map_nil]; rfl) | (refine PSub.of_eq ?_; simp; rfl)) ?_))
end Go.Proofs.Ytceggnkijedonaa
