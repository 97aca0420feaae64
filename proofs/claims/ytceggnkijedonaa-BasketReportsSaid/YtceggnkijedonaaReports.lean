/-
  BasketReports: a further report never lowers the size; a restated one counts as if it had been reported at first.
-/
import Derived.Test.YtceggnkijedonaaReportsLaw
set_option linter.unusedVariables false
set_option linter.unusedSimpArgs false
set_option maxHeartbeats 8000000
namespace Go.Proofs.Ytceggnkijedonaa
open Lf Go
attribute [local irreducible] PureOp EffOp Ev RG W Then InBlock Lf.Fin nth App InitE Pick SubE SubF SubG EvL EvD EvP EvR ResL Lex SubR SubBR RA RAll EvC FinO EvA LatI LatL

def repF (b : Basket) (fs : List Fact) (x : Fact) (L : List Bool) : List (Nat × (Prop × AV)) :=
  let g := fun k => L.getD k false
  (bif g 0 then [(26, vP (aB b))] else []) ++ (bif g 1 && !g 3 then [(27, vS 27)] else []) ++ (bif g 2 then [(28, vP (slF fs))] else []) ++ (bif g 3 && !g 6 then [(29, vS 29)] else []) ++ (bif g 4 then [(30, vP (aF x))] else []) ++
  (bif g 5 && !g 6 then [(31, vS 31)] else []) ++ (bif g 6 then [(32, vS 32)] else []) ++ (bif g 7 then [(33, vB (fewF b (fs ++ [x]) []))] else []) ++ (bif g 8 then [(34, vB (!fewF b (fs ++ [x]) []))] else [])
def repB (b : Basket) (fs : List Fact) (x : Fact) (L : List Bool) : List (Nat × Blk) :=
  let g := fun k => L.getD k false
  (bif g 1 && !g 3 then [(27, ⟨46, 5, []⟩)] else []) ++ (bif g 3 && !g 6 then [(29, ⟨46, 5, fs.map encF⟩)] else []) ++ (bif g 5 && !g 6 then [(31, ⟨46, 5, [encF x]⟩)] else []) ++ (bif g 6 then [(32, ⟨46, 5, (fs ++ [x]).map encF⟩)] else []) ++ [(5, ⟨23, 4, [encB b]⟩), (7, ⟨46, 5, [encF x]⟩)]
def repE (fs : List Fact) (i d : Int) : List (Nat × (Prop × AV)) := [(1, vP (slF fs)), (3, vI i), (4, vI d), (5, (True, .addr 5 0 0)), (7, (True, .addr 7 0 0)), (11, vB true)]
def repJ (b : Basket) (fs : List Fact) (x : Fact) (i d : Int) (L : List Bool) : St := mkSt 163 (repF b fs x L) (repE fs i d) (repB b fs x L)
def repT : List (List Bool × List Nat) := [
  ([false, false, false, false, false, false, false, false, false], [0, 1, 2, 4]),
  ([true, false, false, false, false, false, false, false, false], [1, 2, 4]),
  ([false, true, false, false, false, false, false, false, false], [0, 2, 4]),
  ([false, false, true, false, false, false, false, false, false], [0, 1, 4]),
  ([false, false, false, false, true, false, false, false, false], [0, 1, 2, 5]),
  ([true, true, false, false, false, false, false, false, false], [2, 4]),
  ([true, false, true, false, false, false, false, false, false], [1, 4]),
  ([true, false, false, false, true, false, false, false, false], [1, 2, 5]),
  ([false, true, true, false, false, false, false, false, false], [0, 3, 4]),
  ([false, true, false, false, true, false, false, false, false], [0, 2, 5]),
  ([false, false, true, false, true, false, false, false, false], [0, 1, 5]),
  ([false, false, false, false, true, true, false, false, false], [0, 1, 2]),
  ([true, true, true, false, false, false, false, false, false], [3, 4]),
  ([true, true, false, false, true, false, false, false, false], [2, 5]),
  ([true, false, true, false, true, false, false, false, false], [1, 5]),
  ([true, false, false, false, true, true, false, false, false], [1, 2]),
  ([false, true, true, true, false, false, false, false, false], [0, 4]),
  ([false, true, true, false, true, false, false, false, false], [0, 3, 5]),
  ([false, true, false, false, true, true, false, false, false], [0, 2]),
  ([false, false, true, false, true, true, false, false, false], [0, 1]),
  ([true, true, true, true, false, false, false, false, false], [4]),
  ([true, true, true, false, true, false, false, false, false], [3, 5]),
  ([true, true, false, false, true, true, false, false, false], [2]),
  ([true, false, true, false, true, true, false, false, false], [1]),
  ([false, true, true, true, true, false, false, false, false], [0, 5]),
  ([false, true, true, false, true, true, false, false, false], [0, 3]),
  ([true, true, true, true, true, false, false, false, false], [5]),
  ([true, true, true, false, true, true, false, false, false], [3]),
  ([false, true, true, true, true, true, false, false, false], [0, 6]),
  ([true, true, true, true, true, true, false, false, false], [6]),
  ([false, true, true, true, true, true, true, false, false], [0]),
  ([true, true, true, true, true, true, true, false, false], [7]),
  ([true, true, true, true, true, true, true, true, false], [8]),
  ([true, true, true, true, true, true, true, true, true], [])]
theorem reports_ok (b : Basket) (fs : List Fact) (x : Fact) (i d : Int) (hn : okN b.name) (h : ∀ f ∈ fs, okN f.name) (hx : okN x.name) (hbig : (fs.length + 1) * 48 ≤ 140737488355328) : ACalls Try.prog 7 [aB b, slF fs, aF x, cI i, cI d] (.pv (cB true)) := by
  refine ACalls.of_W (qs := [cB true]) [10] 163 Try.func7 (by kernel_rfl) rfl rfl rfl fun G => ?_
  apply W.init (by repeat (first | exact InitE.nil | apply InitE.c0 | apply InitE.c1 | apply InitE.c2 | apply InitE.c3 | apply InitE.c4 | apply InitE.c5 | apply InitE.c6 | apply InitE.c7 | apply InitE.c8 | apply InitE.c9 | apply InitE.c10 | apply InitE.c11))
  repeat' (first
    | apply RG.nil
    | apply Lex.nil
    | apply Then.n
    | apply Then.r
    | apply Then.x
    | apply InBlock.n
    | apply InBlock.r
    | apply InBlock.hit
    | (apply InBlock.miss; exact rfl)
    | apply W.seq
    | apply W.region
    | apply W.block
    | apply W.skip
    | apply W.ret
    | apply W.exit
    | ((first | apply U_ | (apply Ug_; exact rfl; exact rfl) | (apply Ugq_; exact rfl; exact rfl)); (first
    | (apply Q_move; (refine Ev.of rfl ?_; first | exact fun _ => ⟨⟩ | exact id | exact And.right | exact And.left | exact (·.1.2) | exact (·.1.1) | exact (·.1.1.1) | exact (·.1.1.2)))
    | (apply Q_assign; (refine Ev.of rfl ?_; first | exact fun _ => ⟨⟩ | exact id | exact And.right | exact And.left | exact (·.1.2) | exact (·.1.1) | exact (·.1.1.1) | exact (·.1.1.2)))
    | (apply Q_fieldp TYok; (refine Ev.of rfl ?_; first | exact fun _ => ⟨⟩ | exact id | exact And.right | exact And.left | exact (·.1.2) | exact (·.1.1) | exact (·.1.1.1) | exact (·.1.1.2)); exact rfl; exact rfl; exact rfl; exact rfl; exact rfl)
    | (apply Q_field TYok; (refine Ev.of rfl ?_; first | exact fun _ => ⟨⟩ | exact id | exact And.right | exact And.left | exact (·.1.2) | exact (·.1.1) | exact (·.1.1.1) | exact (·.1.1.2)); exact rfl; exact rfl; exact rfl; exact rfl; exact rfl)
    | (apply Q_loadp TYok; exact rfl; exact rfl; (refine Ev.of rfl ?_; first | exact fun _ => ⟨⟩ | exact id | exact And.right | exact And.left | exact (·.1.2) | exact (·.1.1) | exact (·.1.1.1) | exact (·.1.1.2)); exact rfl)
    | (apply Q_load TYok; exact rfl; exact rfl; (refine Ev.of rfl ?_; first | exact fun _ => ⟨⟩ | exact id | exact And.right | exact And.left | exact (·.1.2) | exact (·.1.1) | exact (·.1.1.1) | exact (·.1.1.2)); exact rfl; exact rfl; exact rfl)
    | (apply Q_loadm TYok; exact rfl; exact rfl; (refine Ev.of rfl ?_; first | exact fun _ => ⟨⟩ | exact id | exact And.right | exact And.left | exact (·.1.2) | exact (·.1.1) | exact (·.1.1.1) | exact (·.1.1.2)); exact rfl; (intro hg; first | omega | (simp; omega) | (simp at hg; simp; omega)); exact rfl; infer_instance)
    | (apply Q_loadpa TYok; exact rfl; exact rfl; (refine Ev.of rfl ?_; first | exact fun _ => ⟨⟩ | exact id | exact And.right | exact And.left | exact (·.1.2) | exact (·.1.1) | exact (·.1.1.1) | exact (·.1.1.2)); exact rfl)
    | (apply Q_loada TYok; exact rfl; exact rfl; (refine Ev.of rfl ?_; first | exact fun _ => ⟨⟩ | exact id | exact And.right | exact And.left | exact (·.1.2) | exact (·.1.1) | exact (·.1.1.1) | exact (·.1.1.2)); exact rfl; exact rfl; exact rfl)
    | (apply Q_loadma TYok; exact rfl; exact rfl; (refine Ev.of rfl ?_; first | exact fun _ => ⟨⟩ | exact id | exact And.right | exact And.left | exact (·.1.2) | exact (·.1.1) | exact (·.1.1.1) | exact (·.1.1.2)); exact rfl; (intro hg; first | omega | (simp; omega) | (simp at hg; simp; omega)); exact rfl; infer_instance)
    | (apply Q_add; (refine Ev.of rfl ?_; first | exact fun _ => ⟨⟩ | exact id | exact And.right | exact And.left | exact (·.1.2) | exact (·.1.1) | exact (·.1.1.1) | exact (·.1.1.2)); (refine Ev.of rfl ?_; first | exact fun _ => ⟨⟩ | exact id | exact And.right | exact And.left | exact (·.1.2) | exact (·.1.1) | exact (·.1.1.1) | exact (·.1.1.2)); (first | omega | (constructor <;> omega)))
    | (apply Q_bin; (refine Ev.of rfl ?_; first | exact fun _ => ⟨⟩ | exact id | exact And.right | exact And.left | exact (·.1.2) | exact (·.1.1) | exact (·.1.1.1) | exact (·.1.1.2)); (refine Ev.of rfl ?_; first | exact fun _ => ⟨⟩ | exact id | exact And.right | exact And.left | exact (·.1.2) | exact (·.1.1) | exact (·.1.1.1) | exact (·.1.1.2)); exact rfl)
    | (apply Q_or; (refine Ev.of rfl ?_; first | exact fun _ => ⟨⟩ | exact id | exact And.right | exact And.left | exact (·.1.2) | exact (·.1.1) | exact (·.1.1.1) | exact (·.1.1.2)); (refine Ev.of rfl ?_; first | exact fun _ => ⟨⟩ | exact id | exact And.right | exact And.left | exact (·.1.2) | exact (·.1.1) | exact (·.1.1.1) | exact (·.1.1.2)))
    | (apply Q_and; (refine Ev.of rfl ?_; first | exact fun _ => ⟨⟩ | exact id | exact And.right | exact And.left | exact (·.1.2) | exact (·.1.1) | exact (·.1.1.1) | exact (·.1.1.2)); (refine Ev.of rfl ?_; first | exact fun _ => ⟨⟩ | exact id | exact And.right | exact And.left | exact (·.1.2) | exact (·.1.1) | exact (·.1.1.1) | exact (·.1.1.2)))
    | (apply Q_not; (refine Ev.of rfl ?_; first | exact fun _ => ⟨⟩ | exact id | exact And.right | exact And.left | exact (·.1.2) | exact (·.1.1) | exact (·.1.1.1) | exact (·.1.1.2)))
    | (apply Q_lenm TYok; (refine Ev.of rfl ?_; first | exact fun _ => ⟨⟩ | exact id | exact And.right | exact And.left | exact (·.1.2) | exact (·.1.1) | exact (·.1.1.1) | exact (·.1.1.2)); exact rfl; exact rfl)
    | (apply Q_lend TYok; (refine Ev.of rfl ?_; first | exact fun _ => ⟨⟩ | exact id | exact And.right | exact And.left | exact (·.1.2) | exact (·.1.1) | exact (·.1.1.1) | exact (·.1.1.2)); exact rfl; exact rfl)
    | (apply Q_lenom TYok; (refine Ev.of rfl ?_; first | exact fun _ => ⟨⟩ | exact id | exact And.right | exact And.left | exact (·.1.2) | exact (·.1.1) | exact (·.1.1.1) | exact (·.1.1.2)); exact rfl; exact rfl; exact rfl)
    | (apply Q_len TYok; (refine Ev.of rfl ?_; first | exact fun _ => ⟨⟩ | exact id | exact And.right | exact And.left | exact (·.1.2) | exact (·.1.1) | exact (·.1.1.1) | exact (·.1.1.2)); exact rfl; exact rfl; exact rfl)
    | (apply Q_len0 TYok; (refine Ev.of rfl ?_; first | exact fun _ => ⟨⟩ | exact id | exact And.right | exact And.left | exact (·.1.2) | exact (·.1.1) | exact (·.1.1.1) | exact (·.1.1.2)); exact rfl; exact rfl)
    | (apply Q_lens TYok; (refine Ev.of rfl ?_; first | exact fun _ => ⟨⟩ | exact id | exact And.right | exact And.left | exact (·.1.2) | exact (·.1.1) | exact (·.1.1.1) | exact (·.1.1.2)); exact rfl; exact rfl)
    | (apply Q_indexd TYok; (refine Ev.of rfl ?_; first | exact fun _ => ⟨⟩ | exact id | exact And.right | exact And.left | exact (·.1.2) | exact (·.1.1) | exact (·.1.1.1) | exact (·.1.1.2)); (refine Ev.of rfl ?_; first | exact fun _ => ⟨⟩ | exact id | exact And.right | exact And.left | exact (·.1.2) | exact (·.1.1) | exact (·.1.1.1) | exact (·.1.1.2)); exact rfl; exact rfl; exact rfl; (intro hg; first | exact getRowN (by first | omega | (simp at hg; omega)) | exact getRowI (by first | omega | (simp at hg; omega))); exact rfl)
    | (apply Q_index TYok; (refine Ev.of rfl ?_; first | exact fun _ => ⟨⟩ | exact id | exact And.right | exact And.left | exact (·.1.2) | exact (·.1.1) | exact (·.1.1.1) | exact (·.1.1.2)); (refine Ev.of rfl ?_; first | exact fun _ => ⟨⟩ | exact id | exact And.right | exact And.left | exact (·.1.2) | exact (·.1.1) | exact (·.1.1.1) | exact (·.1.1.2)); exact rfl; exact rfl; exact rfl; exact rfl; exact rfl; (intro hg; first | (simp; omega) | (simp at hg; simp; omega)))
    | (apply Q_binS; (refine Ev.of rfl ?_; first | exact fun _ => ⟨⟩ | exact id | exact And.right | exact And.left | exact (·.1.2) | exact (·.1.1) | exact (·.1.1.1) | exact (·.1.1.2)); (refine Ev.of rfl ?_; first | exact fun _ => ⟨⟩ | exact id | exact And.right | exact And.left | exact (·.1.2) | exact (·.1.1) | exact (·.1.1.1) | exact (·.1.1.2)); exact rfl)
    | (apply Q_binB TYok; (refine Ev.of rfl ?_; first | exact fun _ => ⟨⟩ | exact id | exact And.right | exact And.left | exact (·.1.2) | exact (·.1.1) | exact (·.1.1.1) | exact (·.1.1.2)); (refine Ev.of rfl ?_; first | exact fun _ => ⟨⟩ | exact id | exact And.right | exact And.left | exact (·.1.2) | exact (·.1.1) | exact (·.1.1.1) | exact (·.1.1.2)); exact rfl; exact rfl; exact rfl)
    | (apply Q_extract; (refine Ev.of rfl ?_; first | exact fun _ => ⟨⟩ | exact id | exact And.right | exact And.left | exact (·.1.2) | exact (·.1.1) | exact (·.1.1.1) | exact (·.1.1.2)); exact rfl)
    | (apply Q_call (small_ok); (repeat (first | exact EvL.nil | refine EvL.cons (by refine Ev.of rfl ?_; first | exact fun _ => ⟨⟩ | exact id | exact And.right | exact And.left | exact (·.1.2) | exact (·.1.1) | exact (·.1.1.1) | exact (·.1.1.2)) rfl (by first | exact PSub.rfl' | exact PSub.nil' | (refine PSub.of_eq ?_; simp only [List.map_append, List.map_cons, List.map_nil, List.nil_append]; rfl)) ?_)); exact rfl)); exact rfl)
    | (apply S_alloc TYok; exact rfl; exact rfl; exact rfl; exact rfl)
    | (apply S_store TYok; (refine Ev.of rfl ?_; first | exact fun _ => ⟨⟩ | exact id | exact And.right | exact And.left | exact (·.1.2) | exact (·.1.1) | exact (·.1.1.1) | exact (·.1.1.2)); (refine Ev.of rfl ?_; first | exact fun _ => ⟨⟩ | exact id | exact And.right | exact And.left | exact (·.1.2) | exact (·.1.1) | exact (·.1.1.1) | exact (·.1.1.2)); exact rfl; exact rfl; exact rfl; exact rfl; exact rfl)
    | (apply S_storem TYok; (refine Ev.of rfl ?_; first | exact fun _ => ⟨⟩ | exact id | exact And.right | exact And.left | exact (·.1.2) | exact (·.1.1) | exact (·.1.1.1) | exact (·.1.1.2)); (refine Ev.of rfl ?_; first | exact fun _ => ⟨⟩ | exact id | exact And.right | exact And.left | exact (·.1.2) | exact (·.1.1) | exact (·.1.1.1) | exact (·.1.1.2)); exact rfl; exact rfl; (first | omega | (simp; omega)); exact rfl; (intro z; exact rfl))
    | (apply S_lit TYok; (repeat (first | exact EvR.nil | apply EvR.cons (by refine Ev.of rfl ?_; first | exact fun _ => ⟨⟩ | exact id | exact And.right | exact And.left | exact (·.1.2) | exact (·.1.1) | exact (·.1.1.1) | exact (·.1.1.2)))); exact rfl; exact rfl; exact rfl; exact rfl; exact rfl; exact rfl; exact rfl; exact rfl; exact rfl)
    | (apply S_append TYok; (refine Ev.of rfl ?_; first | exact fun _ => ⟨⟩ | exact id | exact And.right | exact And.left | exact (·.1.2) | exact (·.1.1) | exact (·.1.1.1) | exact (·.1.1.2)); (refine Ev.of rfl ?_; first | exact fun _ => ⟨⟩ | exact id | exact And.right | exact And.left | exact (·.1.2) | exact (·.1.1) | exact (·.1.1.1) | exact (·.1.1.2)); exact rfl; exact rfl; exact rfl; exact rfl; exact rfl; exact rfl; exact rfl; exact rfl; exact rfl; exact rfl; (constructor <;> simp <;> omega); exact rfl)
    | (apply S_append0 TYok; (refine Ev.of rfl ?_; first | exact fun _ => ⟨⟩ | exact id | exact And.right | exact And.left | exact (·.1.2) | exact (·.1.1) | exact (·.1.1.1) | exact (·.1.1.2)); (refine Ev.of rfl ?_; first | exact fun _ => ⟨⟩ | exact id | exact And.right | exact And.left | exact (·.1.2) | exact (·.1.1) | exact (·.1.1.1) | exact (·.1.1.2)); exact rfl; exact rfl; exact rfl; exact rfl; exact rfl; exact rfl; exact rfl; (constructor <;> simp <;> omega); exact rfl; exact rfl)
    | (apply S_appendd TYok; (refine Ev.of rfl ?_; first | exact fun _ => ⟨⟩ | exact id | exact And.right | exact And.left | exact (·.1.2) | exact (·.1.1) | exact (·.1.1.1) | exact (·.1.1.2)); (refine Ev.of rfl ?_; first | exact fun _ => ⟨⟩ | exact id | exact And.right | exact And.left | exact (·.1.2) | exact (·.1.1) | exact (·.1.1.1) | exact (·.1.1.2)); exact rfl; exact rfl; exact rfl; exact rfl; exact rfl; exact rfl; exact rfl; exact rfl; (intro r hr; obtain ⟨_, _, rfl⟩ := List.mem_map.1 hr; rfl); (constructor <;> simp <;> omega); exact rfl)
    | (apply S_box; (refine Ev.of rfl ?_; first | exact fun _ => ⟨⟩ | exact id | exact And.right | exact And.left | exact (·.1.2) | exact (·.1.1) | exact (·.1.1.1) | exact (·.1.1.2)); exact rfl; exact rfl; exact rfl)
    | (apply S_isnil TYok; exact rfl; exact rfl; exact rfl; (refine Ev.of rfl ?_; first | exact fun _ => ⟨⟩ | exact id | exact And.right | exact And.left | exact (·.1.2) | exact (·.1.1) | exact (·.1.1.1) | exact (·.1.1.2)); intro bn hnil)
    | (apply RG.gT; exact rfl; exact rfl; (first | assumption | decide))
    | (apply RG.gF; exact rfl; exact rfl; (first | assumption | decide); exact rfl)
    | (refine W.cond (by refine Ev.of rfl ?_; first | exact fun _ => ⟨⟩ | exact id | exact And.right | exact And.left | exact (·.1.2) | exact (·.1.1) | exact (·.1.1.1) | exact (·.1.1.2)) (fun hb => ?_) (fun hb => ?_) <;> (try simp at hb) <;> (try (exfalso; omega))))
  apply cutK (σ := Unit) 163 [1, 3, 4, 5, 7, 11] (fun _ => True) (fun _ => [(34, vB (!fewF b (fs ++ [x]) []))]) (fun _ => [(5, ⟨23, 4, [encB b]⟩), (7, ⟨46, 5, [encF x]⟩)])
  case hp => repeat (first | exact Pick.nil | apply Pick.cons rfl)
  case hx =>
    refine W.drawL (rid := 2) (Ln := [true, true, true, true, true, true, true, true, true]) (repJ b fs x i d) repT mixed rfl ?_ ?_ (by decide +kernel) (by decide +kernel) (by decide +kernel) ?_
    · refine Le.mkR rfl rfl ?_ ?_ ?_ rfl
      · repeat (first | exact SubR.nil | apply SubR.p rfl (by first | rfl | (simp; done) | (congr 3; omega) | (congr 3; simp; omega)) | apply SubR.s rfl rfl rfl | apply SubR.a rfl rfl rfl | apply SubR.t rfl rfl | apply SubR.m rfl rfl rfl | apply SubR.i rfl rfl rfl rfl rfl)
      · repeat (first | exact SubR.nil | apply SubR.p rfl (by first | rfl | (simp; done) | (congr 3; omega) | (congr 3; simp; omega)) | apply SubR.s rfl rfl rfl | apply SubR.a rfl rfl rfl | apply SubR.t rfl rfl | apply SubR.m rfl rfl rfl | apply SubR.i rfl rfl rfl rfl rfl)
      · repeat (first | exact SubBR.nil | apply SubBR.cons rfl (by first | rfl | (simp only [List.map_append, List.map_replicate, List.map_cons, List.map_nil]; rfl) | (simp only [List.map_append, List.map_cons, List.map_nil, List.append_assoc, List.cons_append, List.nil_append]; rfl) | (simp; done)))
    · unfold repT
      refine LatL.cons (by kernel_rfl) ?_ ?_
      · refine LatI.consE (n := 163) (E := repE fs i d) (f := []) (bl := [(5, ⟨23, 4, [encB b]⟩), (7, ⟨46, 5, [encF x]⟩)]) (env := [(1, vP (slF fs)), (3, vI i), (4, vI d), (5, (True, .addr 5 0 0)), (7, (True, .addr 7 0 0)), (11, vB true)]) (f2 := [(26, vP (aB b))]) (bl2 := [(5, ⟨23, 4, [encB b]⟩), (7, ⟨46, 5, [encF x]⟩)]) rfl rfl rfl rfl ?_ ?_
        · repeat' (first
            | apply RG.nil
            | ((first | apply U_); (first
    | (apply Q_loadp TYok; exact rfl; exact rfl; (refine Ev.of rfl ?_; first | exact fun _ => ⟨⟩ | exact id | exact And.right | exact And.left | exact (·.1.2) | exact (·.1.1) | exact (·.1.1.1) | exact (·.1.1.2)); exact rfl)
    | (apply Q_load TYok; exact rfl; exact rfl; (refine Ev.of rfl ?_; first | exact fun _ => ⟨⟩ | exact id | exact And.right | exact And.left | exact (·.1.2) | exact (·.1.1) | exact (·.1.1.1) | exact (·.1.1.2)); exact rfl; exact rfl; exact rfl)
    | (apply Q_loadm TYok; exact rfl; exact rfl; (refine Ev.of rfl ?_; first | exact fun _ => ⟨⟩ | exact id | exact And.right | exact And.left | exact (·.1.2) | exact (·.1.1) | exact (·.1.1.1) | exact (·.1.1.2)); exact rfl; (intro hg; first | omega | (simp; omega) | (simp at hg; simp; omega)); exact rfl; infer_instance)
    | (apply Q_loadpa TYok; exact rfl; exact rfl; (refine Ev.of rfl ?_; first | exact fun _ => ⟨⟩ | exact id | exact And.right | exact And.left | exact (·.1.2) | exact (·.1.1) | exact (·.1.1.1) | exact (·.1.1.2)); exact rfl)
    | (apply Q_loada TYok; exact rfl; exact rfl; (refine Ev.of rfl ?_; first | exact fun _ => ⟨⟩ | exact id | exact And.right | exact And.left | exact (·.1.2) | exact (·.1.1) | exact (·.1.1.1) | exact (·.1.1.2)); exact rfl; exact rfl; exact rfl)
    | (apply Q_loadma TYok; exact rfl; exact rfl; (refine Ev.of rfl ?_; first | exact fun _ => ⟨⟩ | exact id | exact And.right | exact And.left | exact (·.1.2) | exact (·.1.1) | exact (·.1.1.1) | exact (·.1.1.2)); exact rfl; (intro hg; first | omega | (simp; omega) | (simp at hg; simp; omega)); exact rfl; infer_instance)); exact rfl))
          refine Le.mkR rfl rfl ?_ ?_ ?_ rfl
          · repeat (first | exact SubR.nil | apply SubR.p rfl rfl | apply SubR.s rfl rfl rfl | apply SubR.a rfl rfl rfl)
          · repeat (first | exact SubR.nil | apply SubR.p rfl rfl | apply SubR.s rfl rfl rfl | apply SubR.a rfl rfl rfl)
          · repeat (first | exact SubBR.nil | apply SubBR.cons rfl (by first | rfl | (simp only [List.map_append, List.map_cons, List.map_nil]; rfl)))
        refine LatI.consE (n := 163) (E := repE fs i d) (f := []) (bl := [(5, ⟨23, 4, [encB b]⟩), (7, ⟨46, 5, [encF x]⟩)]) (env := [(1, vP (slF fs)), (3, vI i), (4, vI d), (5, (True, .addr 5 0 0)), (7, (True, .addr 7 0 0)), (11, vB true)]) (f2 := [(27, vS 27)]) (bl2 := [(27, ⟨46, 5, []⟩), (5, ⟨23, 4, [encB b]⟩), (7, ⟨46, 5, [encF x]⟩)]) rfl rfl rfl rfl ?_ ?_
        · repeat' (first
            | apply RG.nil
            | (apply S_lit TYok; (repeat (first | exact EvR.nil | apply EvR.cons (by refine Ev.of rfl ?_; first | exact fun _ => ⟨⟩ | exact id | exact And.right | exact And.left | exact (·.1.2) | exact (·.1.1) | exact (·.1.1.1) | exact (·.1.1.2)))); exact rfl; exact rfl; exact rfl; exact rfl; exact rfl; exact rfl; exact rfl; exact rfl; exact rfl))
          refine Le.mkR rfl rfl ?_ ?_ ?_ rfl
          · repeat (first | exact SubR.nil | apply SubR.p rfl rfl | apply SubR.s rfl rfl rfl | apply SubR.a rfl rfl rfl)
          · repeat (first | exact SubR.nil | apply SubR.p rfl rfl | apply SubR.s rfl rfl rfl | apply SubR.a rfl rfl rfl)
          · repeat (first | exact SubBR.nil | apply SubBR.cons rfl (by first | rfl | (simp only [List.map_append, List.map_cons, List.map_nil]; rfl)))
        refine LatI.consE (n := 163) (E := repE fs i d) (f := []) (bl := [(5, ⟨23, 4, [encB b]⟩), (7, ⟨46, 5, [encF x]⟩)]) (env := [(1, vP (slF fs)), (3, vI i), (4, vI d), (5, (True, .addr 5 0 0)), (7, (True, .addr 7 0 0)), (11, vB true)]) (f2 := [(28, vP (slF fs))]) (bl2 := [(5, ⟨23, 4, [encB b]⟩), (7, ⟨46, 5, [encF x]⟩)]) rfl rfl rfl rfl ?_ ?_
        · repeat' (first
            | apply RG.nil
            | ((first | apply U_); (first
    | (apply Q_move; (refine Ev.of rfl ?_; first | exact fun _ => ⟨⟩ | exact id | exact And.right | exact And.left | exact (·.1.2) | exact (·.1.1) | exact (·.1.1.1) | exact (·.1.1.2)))); exact rfl))
          refine Le.mkR rfl rfl ?_ ?_ ?_ rfl
          · repeat (first | exact SubR.nil | apply SubR.p rfl rfl | apply SubR.s rfl rfl rfl | apply SubR.a rfl rfl rfl)
          · repeat (first | exact SubR.nil | apply SubR.p rfl rfl | apply SubR.s rfl rfl rfl | apply SubR.a rfl rfl rfl)
          · repeat (first | exact SubBR.nil | apply SubBR.cons rfl (by first | rfl | (simp only [List.map_append, List.map_cons, List.map_nil]; rfl)))
        refine LatI.consE (n := 163) (E := repE fs i d) (f := []) (bl := [(5, ⟨23, 4, [encB b]⟩), (7, ⟨46, 5, [encF x]⟩)]) (env := [(1, vP (slF fs)), (3, vI i), (4, vI d), (5, (True, .addr 5 0 0)), (7, (True, .addr 7 0 0)), (11, vB true)]) (f2 := [(30, vP (aF x))]) (bl2 := [(5, ⟨23, 4, [encB b]⟩), (7, ⟨46, 5, [encF x]⟩)]) rfl rfl rfl rfl ?_ ?_
        · repeat' (first
            | apply RG.nil
            | ((first | apply U_); (first
    | (apply Q_loadp TYok; exact rfl; exact rfl; (refine Ev.of rfl ?_; first | exact fun _ => ⟨⟩ | exact id | exact And.right | exact And.left | exact (·.1.2) | exact (·.1.1) | exact (·.1.1.1) | exact (·.1.1.2)); exact rfl)
    | (apply Q_load TYok; exact rfl; exact rfl; (refine Ev.of rfl ?_; first | exact fun _ => ⟨⟩ | exact id | exact And.right | exact And.left | exact (·.1.2) | exact (·.1.1) | exact (·.1.1.1) | exact (·.1.1.2)); exact rfl; exact rfl; exact rfl)
    | (apply Q_loadm TYok; exact rfl; exact rfl; (refine Ev.of rfl ?_; first | exact fun _ => ⟨⟩ | exact id | exact And.right | exact And.left | exact (·.1.2) | exact (·.1.1) | exact (·.1.1.1) | exact (·.1.1.2)); exact rfl; (intro hg; first | omega | (simp; omega) | (simp at hg; simp; omega)); exact rfl; infer_instance)
    | (apply Q_loadpa TYok; exact rfl; exact rfl; (refine Ev.of rfl ?_; first | exact fun _ => ⟨⟩ | exact id | exact And.right | exact And.left | exact (·.1.2) | exact (·.1.1) | exact (·.1.1.1) | exact (·.1.1.2)); exact rfl)
    | (apply Q_loada TYok; exact rfl; exact rfl; (refine Ev.of rfl ?_; first | exact fun _ => ⟨⟩ | exact id | exact And.right | exact And.left | exact (·.1.2) | exact (·.1.1) | exact (·.1.1.1) | exact (·.1.1.2)); exact rfl; exact rfl; exact rfl)
    | (apply Q_loadma TYok; exact rfl; exact rfl; (refine Ev.of rfl ?_; first | exact fun _ => ⟨⟩ | exact id | exact And.right | exact And.left | exact (·.1.2) | exact (·.1.1) | exact (·.1.1.1) | exact (·.1.1.2)); exact rfl; (intro hg; first | omega | (simp; omega) | (simp at hg; simp; omega)); exact rfl; infer_instance)); exact rfl))
          refine Le.mkR rfl rfl ?_ ?_ ?_ rfl
          · repeat (first | exact SubR.nil | apply SubR.p rfl rfl | apply SubR.s rfl rfl rfl | apply SubR.a rfl rfl rfl)
          · repeat (first | exact SubR.nil | apply SubR.p rfl rfl | apply SubR.s rfl rfl rfl | apply SubR.a rfl rfl rfl)
          · repeat (first | exact SubBR.nil | apply SubBR.cons rfl (by first | rfl | (simp only [List.map_append, List.map_cons, List.map_nil]; rfl)))
        exact LatI.nil
      refine LatL.cons (by kernel_rfl) ?_ ?_
      · refine LatI.consE (n := 163) (E := repE fs i d) (f := [(26, vP (aB b))]) (bl := [(5, ⟨23, 4, [encB b]⟩), (7, ⟨46, 5, [encF x]⟩)]) (env := [(26, vP (aB b)), (1, vP (slF fs)), (3, vI i), (4, vI d), (5, (True, .addr 5 0 0)), (7, (True, .addr 7 0 0)), (11, vB true)]) (f2 := [(26, vP (aB b)), (27, vS 27)]) (bl2 := [(27, ⟨46, 5, []⟩), (5, ⟨23, 4, [encB b]⟩), (7, ⟨46, 5, [encF x]⟩)]) rfl rfl rfl rfl ?_ ?_
        · repeat' (first
            | apply RG.nil
            | (apply S_lit TYok; (repeat (first | exact EvR.nil | apply EvR.cons (by refine Ev.of rfl ?_; first | exact fun _ => ⟨⟩ | exact id | exact And.right | exact And.left | exact (·.1.2) | exact (·.1.1) | exact (·.1.1.1) | exact (·.1.1.2)))); exact rfl; exact rfl; exact rfl; exact rfl; exact rfl; exact rfl; exact rfl; exact rfl; exact rfl))
          refine Le.mkR rfl rfl ?_ ?_ ?_ rfl
          · repeat (first | exact SubR.nil | apply SubR.p rfl rfl | apply SubR.s rfl rfl rfl | apply SubR.a rfl rfl rfl)
          · repeat (first | exact SubR.nil | apply SubR.p rfl rfl | apply SubR.s rfl rfl rfl | apply SubR.a rfl rfl rfl)
          · repeat (first | exact SubBR.nil | apply SubBR.cons rfl (by first | rfl | (simp only [List.map_append, List.map_cons, List.map_nil]; rfl)))
        refine LatI.consE (n := 163) (E := repE fs i d) (f := [(26, vP (aB b))]) (bl := [(5, ⟨23, 4, [encB b]⟩), (7, ⟨46, 5, [encF x]⟩)]) (env := [(26, vP (aB b)), (1, vP (slF fs)), (3, vI i), (4, vI d), (5, (True, .addr 5 0 0)), (7, (True, .addr 7 0 0)), (11, vB true)]) (f2 := [(26, vP (aB b)), (28, vP (slF fs))]) (bl2 := [(5, ⟨23, 4, [encB b]⟩), (7, ⟨46, 5, [encF x]⟩)]) rfl rfl rfl rfl ?_ ?_
        · repeat' (first
            | apply RG.nil
            | ((first | apply U_); (first
    | (apply Q_move; (refine Ev.of rfl ?_; first | exact fun _ => ⟨⟩ | exact id | exact And.right | exact And.left | exact (·.1.2) | exact (·.1.1) | exact (·.1.1.1) | exact (·.1.1.2)))); exact rfl))
          refine Le.mkR rfl rfl ?_ ?_ ?_ rfl
          · repeat (first | exact SubR.nil | apply SubR.p rfl rfl | apply SubR.s rfl rfl rfl | apply SubR.a rfl rfl rfl)
          · repeat (first | exact SubR.nil | apply SubR.p rfl rfl | apply SubR.s rfl rfl rfl | apply SubR.a rfl rfl rfl)
          · repeat (first | exact SubBR.nil | apply SubBR.cons rfl (by first | rfl | (simp only [List.map_append, List.map_cons, List.map_nil]; rfl)))
        refine LatI.consE (n := 163) (E := repE fs i d) (f := [(26, vP (aB b))]) (bl := [(5, ⟨23, 4, [encB b]⟩), (7, ⟨46, 5, [encF x]⟩)]) (env := [(26, vP (aB b)), (1, vP (slF fs)), (3, vI i), (4, vI d), (5, (True, .addr 5 0 0)), (7, (True, .addr 7 0 0)), (11, vB true)]) (f2 := [(26, vP (aB b)), (30, vP (aF x))]) (bl2 := [(5, ⟨23, 4, [encB b]⟩), (7, ⟨46, 5, [encF x]⟩)]) rfl rfl rfl rfl ?_ ?_
        · repeat' (first
            | apply RG.nil
            | ((first | apply U_); (first
    | (apply Q_loadp TYok; exact rfl; exact rfl; (refine Ev.of rfl ?_; first | exact fun _ => ⟨⟩ | exact id | exact And.right | exact And.left | exact (·.1.2) | exact (·.1.1) | exact (·.1.1.1) | exact (·.1.1.2)); exact rfl)
    | (apply Q_load TYok; exact rfl; exact rfl; (refine Ev.of rfl ?_; first | exact fun _ => ⟨⟩ | exact id | exact And.right | exact And.left | exact (·.1.2) | exact (·.1.1) | exact (·.1.1.1) | exact (·.1.1.2)); exact rfl; exact rfl; exact rfl)
    | (apply Q_loadm TYok; exact rfl; exact rfl; (refine Ev.of rfl ?_; first | exact fun _ => ⟨⟩ | exact id | exact And.right | exact And.left | exact (·.1.2) | exact (·.1.1) | exact (·.1.1.1) | exact (·.1.1.2)); exact rfl; (intro hg; first | omega | (simp; omega) | (simp at hg; simp; omega)); exact rfl; infer_instance)
    | (apply Q_loadpa TYok; exact rfl; exact rfl; (refine Ev.of rfl ?_; first | exact fun _ => ⟨⟩ | exact id | exact And.right | exact And.left | exact (·.1.2) | exact (·.1.1) | exact (·.1.1.1) | exact (·.1.1.2)); exact rfl)
    | (apply Q_loada TYok; exact rfl; exact rfl; (refine Ev.of rfl ?_; first | exact fun _ => ⟨⟩ | exact id | exact And.right | exact And.left | exact (·.1.2) | exact (·.1.1) | exact (·.1.1.1) | exact (·.1.1.2)); exact rfl; exact rfl; exact rfl)
    | (apply Q_loadma TYok; exact rfl; exact rfl; (refine Ev.of rfl ?_; first | exact fun _ => ⟨⟩ | exact id | exact And.right | exact And.left | exact (·.1.2) | exact (·.1.1) | exact (·.1.1.1) | exact (·.1.1.2)); exact rfl; (intro hg; first | omega | (simp; omega) | (simp at hg; simp; omega)); exact rfl; infer_instance)); exact rfl))
          refine Le.mkR rfl rfl ?_ ?_ ?_ rfl
          · repeat (first | exact SubR.nil | apply SubR.p rfl rfl | apply SubR.s rfl rfl rfl | apply SubR.a rfl rfl rfl)
          · repeat (first | exact SubR.nil | apply SubR.p rfl rfl | apply SubR.s rfl rfl rfl | apply SubR.a rfl rfl rfl)
          · repeat (first | exact SubBR.nil | apply SubBR.cons rfl (by first | rfl | (simp only [List.map_append, List.map_cons, List.map_nil]; rfl)))
        exact LatI.nil
      refine LatL.cons (by kernel_rfl) ?_ ?_
      · refine LatI.consE (n := 163) (E := repE fs i d) (f := [(27, vS 27)]) (bl := [(27, ⟨46, 5, []⟩), (5, ⟨23, 4, [encB b]⟩), (7, ⟨46, 5, [encF x]⟩)]) (env := [(27, vS 27), (1, vP (slF fs)), (3, vI i), (4, vI d), (5, (True, .addr 5 0 0)), (7, (True, .addr 7 0 0)), (11, vB true)]) (f2 := [(26, vP (aB b)), (27, vS 27)]) (bl2 := [(27, ⟨46, 5, []⟩), (5, ⟨23, 4, [encB b]⟩), (7, ⟨46, 5, [encF x]⟩)]) rfl rfl rfl rfl ?_ ?_
        · repeat' (first
            | apply RG.nil
            | ((first | apply U_); (first
    | (apply Q_loadp TYok; exact rfl; exact rfl; (refine Ev.of rfl ?_; first | exact fun _ => ⟨⟩ | exact id | exact And.right | exact And.left | exact (·.1.2) | exact (·.1.1) | exact (·.1.1.1) | exact (·.1.1.2)); exact rfl)
    | (apply Q_load TYok; exact rfl; exact rfl; (refine Ev.of rfl ?_; first | exact fun _ => ⟨⟩ | exact id | exact And.right | exact And.left | exact (·.1.2) | exact (·.1.1) | exact (·.1.1.1) | exact (·.1.1.2)); exact rfl; exact rfl; exact rfl)
    | (apply Q_loadm TYok; exact rfl; exact rfl; (refine Ev.of rfl ?_; first | exact fun _ => ⟨⟩ | exact id | exact And.right | exact And.left | exact (·.1.2) | exact (·.1.1) | exact (·.1.1.1) | exact (·.1.1.2)); exact rfl; (intro hg; first | omega | (simp; omega) | (simp at hg; simp; omega)); exact rfl; infer_instance)
    | (apply Q_loadpa TYok; exact rfl; exact rfl; (refine Ev.of rfl ?_; first | exact fun _ => ⟨⟩ | exact id | exact And.right | exact And.left | exact (·.1.2) | exact (·.1.1) | exact (·.1.1.1) | exact (·.1.1.2)); exact rfl)
    | (apply Q_loada TYok; exact rfl; exact rfl; (refine Ev.of rfl ?_; first | exact fun _ => ⟨⟩ | exact id | exact And.right | exact And.left | exact (·.1.2) | exact (·.1.1) | exact (·.1.1.1) | exact (·.1.1.2)); exact rfl; exact rfl; exact rfl)
    | (apply Q_loadma TYok; exact rfl; exact rfl; (refine Ev.of rfl ?_; first | exact fun _ => ⟨⟩ | exact id | exact And.right | exact And.left | exact (·.1.2) | exact (·.1.1) | exact (·.1.1.1) | exact (·.1.1.2)); exact rfl; (intro hg; first | omega | (simp; omega) | (simp at hg; simp; omega)); exact rfl; infer_instance)); exact rfl))
          refine Le.mkR rfl rfl ?_ ?_ ?_ rfl
          · repeat (first | exact SubR.nil | apply SubR.p rfl rfl | apply SubR.s rfl rfl rfl | apply SubR.a rfl rfl rfl)
          · repeat (first | exact SubR.nil | apply SubR.p rfl rfl | apply SubR.s rfl rfl rfl | apply SubR.a rfl rfl rfl)
          · repeat (first | exact SubBR.nil | apply SubBR.cons rfl (by first | rfl | (simp only [List.map_append, List.map_cons, List.map_nil]; rfl)))
        refine LatI.consE (n := 163) (E := repE fs i d) (f := [(27, vS 27)]) (bl := [(27, ⟨46, 5, []⟩), (5, ⟨23, 4, [encB b]⟩), (7, ⟨46, 5, [encF x]⟩)]) (env := [(27, vS 27), (1, vP (slF fs)), (3, vI i), (4, vI d), (5, (True, .addr 5 0 0)), (7, (True, .addr 7 0 0)), (11, vB true)]) (f2 := [(27, vS 27), (28, vP (slF fs))]) (bl2 := [(27, ⟨46, 5, []⟩), (5, ⟨23, 4, [encB b]⟩), (7, ⟨46, 5, [encF x]⟩)]) rfl rfl rfl rfl ?_ ?_
        · repeat' (first
            | apply RG.nil
            | ((first | apply U_); (first
    | (apply Q_move; (refine Ev.of rfl ?_; first | exact fun _ => ⟨⟩ | exact id | exact And.right | exact And.left | exact (·.1.2) | exact (·.1.1) | exact (·.1.1.1) | exact (·.1.1.2)))); exact rfl))
          refine Le.mkR rfl rfl ?_ ?_ ?_ rfl
          · repeat (first | exact SubR.nil | apply SubR.p rfl rfl | apply SubR.s rfl rfl rfl | apply SubR.a rfl rfl rfl)
          · repeat (first | exact SubR.nil | apply SubR.p rfl rfl | apply SubR.s rfl rfl rfl | apply SubR.a rfl rfl rfl)
          · repeat (first | exact SubBR.nil | apply SubBR.cons rfl (by first | rfl | (simp only [List.map_append, List.map_cons, List.map_nil]; rfl)))
        refine LatI.consE (n := 163) (E := repE fs i d) (f := [(27, vS 27)]) (bl := [(27, ⟨46, 5, []⟩), (5, ⟨23, 4, [encB b]⟩), (7, ⟨46, 5, [encF x]⟩)]) (env := [(27, vS 27), (1, vP (slF fs)), (3, vI i), (4, vI d), (5, (True, .addr 5 0 0)), (7, (True, .addr 7 0 0)), (11, vB true)]) (f2 := [(27, vS 27), (30, vP (aF x))]) (bl2 := [(27, ⟨46, 5, []⟩), (5, ⟨23, 4, [encB b]⟩), (7, ⟨46, 5, [encF x]⟩)]) rfl rfl rfl rfl ?_ ?_
        · repeat' (first
            | apply RG.nil
            | ((first | apply U_); (first
    | (apply Q_loadp TYok; exact rfl; exact rfl; (refine Ev.of rfl ?_; first | exact fun _ => ⟨⟩ | exact id | exact And.right | exact And.left | exact (·.1.2) | exact (·.1.1) | exact (·.1.1.1) | exact (·.1.1.2)); exact rfl)
    | (apply Q_load TYok; exact rfl; exact rfl; (refine Ev.of rfl ?_; first | exact fun _ => ⟨⟩ | exact id | exact And.right | exact And.left | exact (·.1.2) | exact (·.1.1) | exact (·.1.1.1) | exact (·.1.1.2)); exact rfl; exact rfl; exact rfl)
    | (apply Q_loadm TYok; exact rfl; exact rfl; (refine Ev.of rfl ?_; first | exact fun _ => ⟨⟩ | exact id | exact And.right | exact And.left | exact (·.1.2) | exact (·.1.1) | exact (·.1.1.1) | exact (·.1.1.2)); exact rfl; (intro hg; first | omega | (simp; omega) | (simp at hg; simp; omega)); exact rfl; infer_instance)
    | (apply Q_loadpa TYok; exact rfl; exact rfl; (refine Ev.of rfl ?_; first | exact fun _ => ⟨⟩ | exact id | exact And.right | exact And.left | exact (·.1.2) | exact (·.1.1) | exact (·.1.1.1) | exact (·.1.1.2)); exact rfl)
    | (apply Q_loada TYok; exact rfl; exact rfl; (refine Ev.of rfl ?_; first | exact fun _ => ⟨⟩ | exact id | exact And.right | exact And.left | exact (·.1.2) | exact (·.1.1) | exact (·.1.1.1) | exact (·.1.1.2)); exact rfl; exact rfl; exact rfl)
    | (apply Q_loadma TYok; exact rfl; exact rfl; (refine Ev.of rfl ?_; first | exact fun _ => ⟨⟩ | exact id | exact And.right | exact And.left | exact (·.1.2) | exact (·.1.1) | exact (·.1.1.1) | exact (·.1.1.2)); exact rfl; (intro hg; first | omega | (simp; omega) | (simp at hg; simp; omega)); exact rfl; infer_instance)); exact rfl))
          refine Le.mkR rfl rfl ?_ ?_ ?_ rfl
          · repeat (first | exact SubR.nil | apply SubR.p rfl rfl | apply SubR.s rfl rfl rfl | apply SubR.a rfl rfl rfl)
          · repeat (first | exact SubR.nil | apply SubR.p rfl rfl | apply SubR.s rfl rfl rfl | apply SubR.a rfl rfl rfl)
          · repeat (first | exact SubBR.nil | apply SubBR.cons rfl (by first | rfl | (simp only [List.map_append, List.map_cons, List.map_nil]; rfl)))
        exact LatI.nil
      refine LatL.cons (by kernel_rfl) ?_ ?_
      · refine LatI.consE (n := 163) (E := repE fs i d) (f := [(28, vP (slF fs))]) (bl := [(5, ⟨23, 4, [encB b]⟩), (7, ⟨46, 5, [encF x]⟩)]) (env := [(28, vP (slF fs)), (1, vP (slF fs)), (3, vI i), (4, vI d), (5, (True, .addr 5 0 0)), (7, (True, .addr 7 0 0)), (11, vB true)]) (f2 := [(26, vP (aB b)), (28, vP (slF fs))]) (bl2 := [(5, ⟨23, 4, [encB b]⟩), (7, ⟨46, 5, [encF x]⟩)]) rfl rfl rfl rfl ?_ ?_
        · repeat' (first
            | apply RG.nil
            | ((first | apply U_); (first
    | (apply Q_loadp TYok; exact rfl; exact rfl; (refine Ev.of rfl ?_; first | exact fun _ => ⟨⟩ | exact id | exact And.right | exact And.left | exact (·.1.2) | exact (·.1.1) | exact (·.1.1.1) | exact (·.1.1.2)); exact rfl)
    | (apply Q_load TYok; exact rfl; exact rfl; (refine Ev.of rfl ?_; first | exact fun _ => ⟨⟩ | exact id | exact And.right | exact And.left | exact (·.1.2) | exact (·.1.1) | exact (·.1.1.1) | exact (·.1.1.2)); exact rfl; exact rfl; exact rfl)
    | (apply Q_loadm TYok; exact rfl; exact rfl; (refine Ev.of rfl ?_; first | exact fun _ => ⟨⟩ | exact id | exact And.right | exact And.left | exact (·.1.2) | exact (·.1.1) | exact (·.1.1.1) | exact (·.1.1.2)); exact rfl; (intro hg; first | omega | (simp; omega) | (simp at hg; simp; omega)); exact rfl; infer_instance)
    | (apply Q_loadpa TYok; exact rfl; exact rfl; (refine Ev.of rfl ?_; first | exact fun _ => ⟨⟩ | exact id | exact And.right | exact And.left | exact (·.1.2) | exact (·.1.1) | exact (·.1.1.1) | exact (·.1.1.2)); exact rfl)
    | (apply Q_loada TYok; exact rfl; exact rfl; (refine Ev.of rfl ?_; first | exact fun _ => ⟨⟩ | exact id | exact And.right | exact And.left | exact (·.1.2) | exact (·.1.1) | exact (·.1.1.1) | exact (·.1.1.2)); exact rfl; exact rfl; exact rfl)
    | (apply Q_loadma TYok; exact rfl; exact rfl; (refine Ev.of rfl ?_; first | exact fun _ => ⟨⟩ | exact id | exact And.right | exact And.left | exact (·.1.2) | exact (·.1.1) | exact (·.1.1.1) | exact (·.1.1.2)); exact rfl; (intro hg; first | omega | (simp; omega) | (simp at hg; simp; omega)); exact rfl; infer_instance)); exact rfl))
          refine Le.mkR rfl rfl ?_ ?_ ?_ rfl
          · repeat (first | exact SubR.nil | apply SubR.p rfl rfl | apply SubR.s rfl rfl rfl | apply SubR.a rfl rfl rfl)
          · repeat (first | exact SubR.nil | apply SubR.p rfl rfl | apply SubR.s rfl rfl rfl | apply SubR.a rfl rfl rfl)
          · repeat (first | exact SubBR.nil | apply SubBR.cons rfl (by first | rfl | (simp only [List.map_append, List.map_cons, List.map_nil]; rfl)))
        refine LatI.consE (n := 163) (E := repE fs i d) (f := [(28, vP (slF fs))]) (bl := [(5, ⟨23, 4, [encB b]⟩), (7, ⟨46, 5, [encF x]⟩)]) (env := [(28, vP (slF fs)), (1, vP (slF fs)), (3, vI i), (4, vI d), (5, (True, .addr 5 0 0)), (7, (True, .addr 7 0 0)), (11, vB true)]) (f2 := [(27, vS 27), (28, vP (slF fs))]) (bl2 := [(27, ⟨46, 5, []⟩), (5, ⟨23, 4, [encB b]⟩), (7, ⟨46, 5, [encF x]⟩)]) rfl rfl rfl rfl ?_ ?_
        · repeat' (first
            | apply RG.nil
            | (apply S_lit TYok; (repeat (first | exact EvR.nil | apply EvR.cons (by refine Ev.of rfl ?_; first | exact fun _ => ⟨⟩ | exact id | exact And.right | exact And.left | exact (·.1.2) | exact (·.1.1) | exact (·.1.1.1) | exact (·.1.1.2)))); exact rfl; exact rfl; exact rfl; exact rfl; exact rfl; exact rfl; exact rfl; exact rfl; exact rfl))
          refine Le.mkR rfl rfl ?_ ?_ ?_ rfl
          · repeat (first | exact SubR.nil | apply SubR.p rfl rfl | apply SubR.s rfl rfl rfl | apply SubR.a rfl rfl rfl)
          · repeat (first | exact SubR.nil | apply SubR.p rfl rfl | apply SubR.s rfl rfl rfl | apply SubR.a rfl rfl rfl)
          · repeat (first | exact SubBR.nil | apply SubBR.cons rfl (by first | rfl | (simp only [List.map_append, List.map_cons, List.map_nil]; rfl)))
        refine LatI.consE (n := 163) (E := repE fs i d) (f := [(28, vP (slF fs))]) (bl := [(5, ⟨23, 4, [encB b]⟩), (7, ⟨46, 5, [encF x]⟩)]) (env := [(28, vP (slF fs)), (1, vP (slF fs)), (3, vI i), (4, vI d), (5, (True, .addr 5 0 0)), (7, (True, .addr 7 0 0)), (11, vB true)]) (f2 := [(28, vP (slF fs)), (30, vP (aF x))]) (bl2 := [(5, ⟨23, 4, [encB b]⟩), (7, ⟨46, 5, [encF x]⟩)]) rfl rfl rfl rfl ?_ ?_
        · repeat' (first
            | apply RG.nil
            | ((first | apply U_); (first
    | (apply Q_loadp TYok; exact rfl; exact rfl; (refine Ev.of rfl ?_; first | exact fun _ => ⟨⟩ | exact id | exact And.right | exact And.left | exact (·.1.2) | exact (·.1.1) | exact (·.1.1.1) | exact (·.1.1.2)); exact rfl)
    | (apply Q_load TYok; exact rfl; exact rfl; (refine Ev.of rfl ?_; first | exact fun _ => ⟨⟩ | exact id | exact And.right | exact And.left | exact (·.1.2) | exact (·.1.1) | exact (·.1.1.1) | exact (·.1.1.2)); exact rfl; exact rfl; exact rfl)
    | (apply Q_loadm TYok; exact rfl; exact rfl; (refine Ev.of rfl ?_; first | exact fun _ => ⟨⟩ | exact id | exact And.right | exact And.left | exact (·.1.2) | exact (·.1.1) | exact (·.1.1.1) | exact (·.1.1.2)); exact rfl; (intro hg; first | omega | (simp; omega) | (simp at hg; simp; omega)); exact rfl; infer_instance)
    | (apply Q_loadpa TYok; exact rfl; exact rfl; (refine Ev.of rfl ?_; first | exact fun _ => ⟨⟩ | exact id | exact And.right | exact And.left | exact (·.1.2) | exact (·.1.1) | exact (·.1.1.1) | exact (·.1.1.2)); exact rfl)
    | (apply Q_loada TYok; exact rfl; exact rfl; (refine Ev.of rfl ?_; first | exact fun _ => ⟨⟩ | exact id | exact And.right | exact And.left | exact (·.1.2) | exact (·.1.1) | exact (·.1.1.1) | exact (·.1.1.2)); exact rfl; exact rfl; exact rfl)
    | (apply Q_loadma TYok; exact rfl; exact rfl; (refine Ev.of rfl ?_; first | exact fun _ => ⟨⟩ | exact id | exact And.right | exact And.left | exact (·.1.2) | exact (·.1.1) | exact (·.1.1.1) | exact (·.1.1.2)); exact rfl; (intro hg; first | omega | (simp; omega) | (simp at hg; simp; omega)); exact rfl; infer_instance)); exact rfl))
          refine Le.mkR rfl rfl ?_ ?_ ?_ rfl
          · repeat (first | exact SubR.nil | apply SubR.p rfl rfl | apply SubR.s rfl rfl rfl | apply SubR.a rfl rfl rfl)
          · repeat (first | exact SubR.nil | apply SubR.p rfl rfl | apply SubR.s rfl rfl rfl | apply SubR.a rfl rfl rfl)
          · repeat (first | exact SubBR.nil | apply SubBR.cons rfl (by first | rfl | (simp only [List.map_append, List.map_cons, List.map_nil]; rfl)))
        exact LatI.nil
      refine LatL.cons (by kernel_rfl) ?_ ?_
      · refine LatI.consE (n := 163) (E := repE fs i d) (f := [(30, vP (aF x))]) (bl := [(5, ⟨23, 4, [encB b]⟩), (7, ⟨46, 5, [encF x]⟩)]) (env := [(30, vP (aF x)), (1, vP (slF fs)), (3, vI i), (4, vI d), (5, (True, .addr 5 0 0)), (7, (True, .addr 7 0 0)), (11, vB true)]) (f2 := [(26, vP (aB b)), (30, vP (aF x))]) (bl2 := [(5, ⟨23, 4, [encB b]⟩), (7, ⟨46, 5, [encF x]⟩)]) rfl rfl rfl rfl ?_ ?_
        · repeat' (first
            | apply RG.nil
            | ((first | apply U_); (first
    | (apply Q_loadp TYok; exact rfl; exact rfl; (refine Ev.of rfl ?_; first | exact fun _ => ⟨⟩ | exact id | exact And.right | exact And.left | exact (·.1.2) | exact (·.1.1) | exact (·.1.1.1) | exact (·.1.1.2)); exact rfl)
    | (apply Q_load TYok; exact rfl; exact rfl; (refine Ev.of rfl ?_; first | exact fun _ => ⟨⟩ | exact id | exact And.right | exact And.left | exact (·.1.2) | exact (·.1.1) | exact (·.1.1.1) | exact (·.1.1.2)); exact rfl; exact rfl; exact rfl)
    | (apply Q_loadm TYok; exact rfl; exact rfl; (refine Ev.of rfl ?_; first | exact fun _ => ⟨⟩ | exact id | exact And.right | exact And.left | exact (·.1.2) | exact (·.1.1) | exact (·.1.1.1) | exact (·.1.1.2)); exact rfl; (intro hg; first | omega | (simp; omega) | (simp at hg; simp; omega)); exact rfl; infer_instance)
    | (apply Q_loadpa TYok; exact rfl; exact rfl; (refine Ev.of rfl ?_; first | exact fun _ => ⟨⟩ | exact id | exact And.right | exact And.left | exact (·.1.2) | exact (·.1.1) | exact (·.1.1.1) | exact (·.1.1.2)); exact rfl)
    | (apply Q_loada TYok; exact rfl; exact rfl; (refine Ev.of rfl ?_; first | exact fun _ => ⟨⟩ | exact id | exact And.right | exact And.left | exact (·.1.2) | exact (·.1.1) | exact (·.1.1.1) | exact (·.1.1.2)); exact rfl; exact rfl; exact rfl)
    | (apply Q_loadma TYok; exact rfl; exact rfl; (refine Ev.of rfl ?_; first | exact fun _ => ⟨⟩ | exact id | exact And.right | exact And.left | exact (·.1.2) | exact (·.1.1) | exact (·.1.1.1) | exact (·.1.1.2)); exact rfl; (intro hg; first | omega | (simp; omega) | (simp at hg; simp; omega)); exact rfl; infer_instance)); exact rfl))
          refine Le.mkR rfl rfl ?_ ?_ ?_ rfl
          · repeat (first | exact SubR.nil | apply SubR.p rfl rfl | apply SubR.s rfl rfl rfl | apply SubR.a rfl rfl rfl)
          · repeat (first | exact SubR.nil | apply SubR.p rfl rfl | apply SubR.s rfl rfl rfl | apply SubR.a rfl rfl rfl)
          · repeat (first | exact SubBR.nil | apply SubBR.cons rfl (by first | rfl | (simp only [List.map_append, List.map_cons, List.map_nil]; rfl)))
        refine LatI.consE (n := 163) (E := repE fs i d) (f := [(30, vP (aF x))]) (bl := [(5, ⟨23, 4, [encB b]⟩), (7, ⟨46, 5, [encF x]⟩)]) (env := [(30, vP (aF x)), (1, vP (slF fs)), (3, vI i), (4, vI d), (5, (True, .addr 5 0 0)), (7, (True, .addr 7 0 0)), (11, vB true)]) (f2 := [(27, vS 27), (30, vP (aF x))]) (bl2 := [(27, ⟨46, 5, []⟩), (5, ⟨23, 4, [encB b]⟩), (7, ⟨46, 5, [encF x]⟩)]) rfl rfl rfl rfl ?_ ?_
        · repeat' (first
            | apply RG.nil
            | (apply S_lit TYok; (repeat (first | exact EvR.nil | apply EvR.cons (by refine Ev.of rfl ?_; first | exact fun _ => ⟨⟩ | exact id | exact And.right | exact And.left | exact (·.1.2) | exact (·.1.1) | exact (·.1.1.1) | exact (·.1.1.2)))); exact rfl; exact rfl; exact rfl; exact rfl; exact rfl; exact rfl; exact rfl; exact rfl; exact rfl))
          refine Le.mkR rfl rfl ?_ ?_ ?_ rfl
          · repeat (first | exact SubR.nil | apply SubR.p rfl rfl | apply SubR.s rfl rfl rfl | apply SubR.a rfl rfl rfl)
          · repeat (first | exact SubR.nil | apply SubR.p rfl rfl | apply SubR.s rfl rfl rfl | apply SubR.a rfl rfl rfl)
          · repeat (first | exact SubBR.nil | apply SubBR.cons rfl (by first | rfl | (simp only [List.map_append, List.map_cons, List.map_nil]; rfl)))
        refine LatI.consE (n := 163) (E := repE fs i d) (f := [(30, vP (aF x))]) (bl := [(5, ⟨23, 4, [encB b]⟩), (7, ⟨46, 5, [encF x]⟩)]) (env := [(30, vP (aF x)), (1, vP (slF fs)), (3, vI i), (4, vI d), (5, (True, .addr 5 0 0)), (7, (True, .addr 7 0 0)), (11, vB true)]) (f2 := [(28, vP (slF fs)), (30, vP (aF x))]) (bl2 := [(5, ⟨23, 4, [encB b]⟩), (7, ⟨46, 5, [encF x]⟩)]) rfl rfl rfl rfl ?_ ?_
        · repeat' (first
            | apply RG.nil
            | ((first | apply U_); (first
    | (apply Q_move; (refine Ev.of rfl ?_; first | exact fun _ => ⟨⟩ | exact id | exact And.right | exact And.left | exact (·.1.2) | exact (·.1.1) | exact (·.1.1.1) | exact (·.1.1.2)))); exact rfl))
          refine Le.mkR rfl rfl ?_ ?_ ?_ rfl
          · repeat (first | exact SubR.nil | apply SubR.p rfl rfl | apply SubR.s rfl rfl rfl | apply SubR.a rfl rfl rfl)
          · repeat (first | exact SubR.nil | apply SubR.p rfl rfl | apply SubR.s rfl rfl rfl | apply SubR.a rfl rfl rfl)
          · repeat (first | exact SubBR.nil | apply SubBR.cons rfl (by first | rfl | (simp only [List.map_append, List.map_cons, List.map_nil]; rfl)))
        refine LatI.consE (n := 163) (E := repE fs i d) (f := [(30, vP (aF x))]) (bl := [(5, ⟨23, 4, [encB b]⟩), (7, ⟨46, 5, [encF x]⟩)]) (env := [(30, vP (aF x)), (1, vP (slF fs)), (3, vI i), (4, vI d), (5, (True, .addr 5 0 0)), (7, (True, .addr 7 0 0)), (11, vB true)]) (f2 := [(30, vP (aF x)), (31, vS 31)]) (bl2 := [(31, ⟨46, 5, [encF x]⟩), (5, ⟨23, 4, [encB b]⟩), (7, ⟨46, 5, [encF x]⟩)]) rfl rfl rfl rfl ?_ ?_
        · repeat' (first
            | apply RG.nil
            | (apply S_lit TYok; (repeat (first | exact EvR.nil | apply EvR.cons (by refine Ev.of rfl ?_; first | exact fun _ => ⟨⟩ | exact id | exact And.right | exact And.left | exact (·.1.2) | exact (·.1.1) | exact (·.1.1.1) | exact (·.1.1.2)))); exact rfl; exact rfl; exact rfl; exact rfl; exact rfl; exact rfl; exact rfl; exact rfl; exact rfl))
          refine Le.mkR rfl rfl ?_ ?_ ?_ rfl
          · repeat (first | exact SubR.nil | apply SubR.p rfl rfl | apply SubR.s rfl rfl rfl | apply SubR.a rfl rfl rfl)
          · repeat (first | exact SubR.nil | apply SubR.p rfl rfl | apply SubR.s rfl rfl rfl | apply SubR.a rfl rfl rfl)
          · repeat (first | exact SubBR.nil | apply SubBR.cons rfl (by first | rfl | (simp only [List.map_append, List.map_cons, List.map_nil]; rfl)))
        exact LatI.nil
      refine LatL.cons (by kernel_rfl) ?_ ?_
      · refine LatI.consE (n := 163) (E := repE fs i d) (f := [(26, vP (aB b)), (27, vS 27)]) (bl := [(27, ⟨46, 5, []⟩), (5, ⟨23, 4, [encB b]⟩), (7, ⟨46, 5, [encF x]⟩)]) (env := [(26, vP (aB b)), (27, vS 27), (1, vP (slF fs)), (3, vI i), (4, vI d), (5, (True, .addr 5 0 0)), (7, (True, .addr 7 0 0)), (11, vB true)]) (f2 := [(26, vP (aB b)), (27, vS 27), (28, vP (slF fs))]) (bl2 := [(27, ⟨46, 5, []⟩), (5, ⟨23, 4, [encB b]⟩), (7, ⟨46, 5, [encF x]⟩)]) rfl rfl rfl rfl ?_ ?_
        · repeat' (first
            | apply RG.nil
            | ((first | apply U_); (first
    | (apply Q_move; (refine Ev.of rfl ?_; first | exact fun _ => ⟨⟩ | exact id | exact And.right | exact And.left | exact (·.1.2) | exact (·.1.1) | exact (·.1.1.1) | exact (·.1.1.2)))); exact rfl))
          refine Le.mkR rfl rfl ?_ ?_ ?_ rfl
          · repeat (first | exact SubR.nil | apply SubR.p rfl rfl | apply SubR.s rfl rfl rfl | apply SubR.a rfl rfl rfl)
          · repeat (first | exact SubR.nil | apply SubR.p rfl rfl | apply SubR.s rfl rfl rfl | apply SubR.a rfl rfl rfl)
          · repeat (first | exact SubBR.nil | apply SubBR.cons rfl (by first | rfl | (simp only [List.map_append, List.map_cons, List.map_nil]; rfl)))
        refine LatI.consE (n := 163) (E := repE fs i d) (f := [(26, vP (aB b)), (27, vS 27)]) (bl := [(27, ⟨46, 5, []⟩), (5, ⟨23, 4, [encB b]⟩), (7, ⟨46, 5, [encF x]⟩)]) (env := [(26, vP (aB b)), (27, vS 27), (1, vP (slF fs)), (3, vI i), (4, vI d), (5, (True, .addr 5 0 0)), (7, (True, .addr 7 0 0)), (11, vB true)]) (f2 := [(26, vP (aB b)), (27, vS 27), (30, vP (aF x))]) (bl2 := [(27, ⟨46, 5, []⟩), (5, ⟨23, 4, [encB b]⟩), (7, ⟨46, 5, [encF x]⟩)]) rfl rfl rfl rfl ?_ ?_
        · repeat' (first
            | apply RG.nil
            | ((first | apply U_); (first
    | (apply Q_loadp TYok; exact rfl; exact rfl; (refine Ev.of rfl ?_; first | exact fun _ => ⟨⟩ | exact id | exact And.right | exact And.left | exact (·.1.2) | exact (·.1.1) | exact (·.1.1.1) | exact (·.1.1.2)); exact rfl)
    | (apply Q_load TYok; exact rfl; exact rfl; (refine Ev.of rfl ?_; first | exact fun _ => ⟨⟩ | exact id | exact And.right | exact And.left | exact (·.1.2) | exact (·.1.1) | exact (·.1.1.1) | exact (·.1.1.2)); exact rfl; exact rfl; exact rfl)
    | (apply Q_loadm TYok; exact rfl; exact rfl; (refine Ev.of rfl ?_; first | exact fun _ => ⟨⟩ | exact id | exact And.right | exact And.left | exact (·.1.2) | exact (·.1.1) | exact (·.1.1.1) | exact (·.1.1.2)); exact rfl; (intro hg; first | omega | (simp; omega) | (simp at hg; simp; omega)); exact rfl; infer_instance)
    | (apply Q_loadpa TYok; exact rfl; exact rfl; (refine Ev.of rfl ?_; first | exact fun _ => ⟨⟩ | exact id | exact And.right | exact And.left | exact (·.1.2) | exact (·.1.1) | exact (·.1.1.1) | exact (·.1.1.2)); exact rfl)
    | (apply Q_loada TYok; exact rfl; exact rfl; (refine Ev.of rfl ?_; first | exact fun _ => ⟨⟩ | exact id | exact And.right | exact And.left | exact (·.1.2) | exact (·.1.1) | exact (·.1.1.1) | exact (·.1.1.2)); exact rfl; exact rfl; exact rfl)
    | (apply Q_loadma TYok; exact rfl; exact rfl; (refine Ev.of rfl ?_; first | exact fun _ => ⟨⟩ | exact id | exact And.right | exact And.left | exact (·.1.2) | exact (·.1.1) | exact (·.1.1.1) | exact (·.1.1.2)); exact rfl; (intro hg; first | omega | (simp; omega) | (simp at hg; simp; omega)); exact rfl; infer_instance)); exact rfl))
          refine Le.mkR rfl rfl ?_ ?_ ?_ rfl
          · repeat (first | exact SubR.nil | apply SubR.p rfl rfl | apply SubR.s rfl rfl rfl | apply SubR.a rfl rfl rfl)
          · repeat (first | exact SubR.nil | apply SubR.p rfl rfl | apply SubR.s rfl rfl rfl | apply SubR.a rfl rfl rfl)
          · repeat (first | exact SubBR.nil | apply SubBR.cons rfl (by first | rfl | (simp only [List.map_append, List.map_cons, List.map_nil]; rfl)))
        exact LatI.nil
      refine LatL.cons (by kernel_rfl) ?_ ?_
      · refine LatI.consE (n := 163) (E := repE fs i d) (f := [(26, vP (aB b)), (28, vP (slF fs))]) (bl := [(5, ⟨23, 4, [encB b]⟩), (7, ⟨46, 5, [encF x]⟩)]) (env := [(26, vP (aB b)), (28, vP (slF fs)), (1, vP (slF fs)), (3, vI i), (4, vI d), (5, (True, .addr 5 0 0)), (7, (True, .addr 7 0 0)), (11, vB true)]) (f2 := [(26, vP (aB b)), (27, vS 27), (28, vP (slF fs))]) (bl2 := [(27, ⟨46, 5, []⟩), (5, ⟨23, 4, [encB b]⟩), (7, ⟨46, 5, [encF x]⟩)]) rfl rfl rfl rfl ?_ ?_
        · repeat' (first
            | apply RG.nil
            | (apply S_lit TYok; (repeat (first | exact EvR.nil | apply EvR.cons (by refine Ev.of rfl ?_; first | exact fun _ => ⟨⟩ | exact id | exact And.right | exact And.left | exact (·.1.2) | exact (·.1.1) | exact (·.1.1.1) | exact (·.1.1.2)))); exact rfl; exact rfl; exact rfl; exact rfl; exact rfl; exact rfl; exact rfl; exact rfl; exact rfl))
          refine Le.mkR rfl rfl ?_ ?_ ?_ rfl
          · repeat (first | exact SubR.nil | apply SubR.p rfl rfl | apply SubR.s rfl rfl rfl | apply SubR.a rfl rfl rfl)
          · repeat (first | exact SubR.nil | apply SubR.p rfl rfl | apply SubR.s rfl rfl rfl | apply SubR.a rfl rfl rfl)
          · repeat (first | exact SubBR.nil | apply SubBR.cons rfl (by first | rfl | (simp only [List.map_append, List.map_cons, List.map_nil]; rfl)))
        refine LatI.consE (n := 163) (E := repE fs i d) (f := [(26, vP (aB b)), (28, vP (slF fs))]) (bl := [(5, ⟨23, 4, [encB b]⟩), (7, ⟨46, 5, [encF x]⟩)]) (env := [(26, vP (aB b)), (28, vP (slF fs)), (1, vP (slF fs)), (3, vI i), (4, vI d), (5, (True, .addr 5 0 0)), (7, (True, .addr 7 0 0)), (11, vB true)]) (f2 := [(26, vP (aB b)), (28, vP (slF fs)), (30, vP (aF x))]) (bl2 := [(5, ⟨23, 4, [encB b]⟩), (7, ⟨46, 5, [encF x]⟩)]) rfl rfl rfl rfl ?_ ?_
        · repeat' (first
            | apply RG.nil
            | ((first | apply U_); (first
    | (apply Q_loadp TYok; exact rfl; exact rfl; (refine Ev.of rfl ?_; first | exact fun _ => ⟨⟩ | exact id | exact And.right | exact And.left | exact (·.1.2) | exact (·.1.1) | exact (·.1.1.1) | exact (·.1.1.2)); exact rfl)
    | (apply Q_load TYok; exact rfl; exact rfl; (refine Ev.of rfl ?_; first | exact fun _ => ⟨⟩ | exact id | exact And.right | exact And.left | exact (·.1.2) | exact (·.1.1) | exact (·.1.1.1) | exact (·.1.1.2)); exact rfl; exact rfl; exact rfl)
    | (apply Q_loadm TYok; exact rfl; exact rfl; (refine Ev.of rfl ?_; first | exact fun _ => ⟨⟩ | exact id | exact And.right | exact And.left | exact (·.1.2) | exact (·.1.1) | exact (·.1.1.1) | exact (·.1.1.2)); exact rfl; (intro hg; first | omega | (simp; omega) | (simp at hg; simp; omega)); exact rfl; infer_instance)
    | (apply Q_loadpa TYok; exact rfl; exact rfl; (refine Ev.of rfl ?_; first | exact fun _ => ⟨⟩ | exact id | exact And.right | exact And.left | exact (·.1.2) | exact (·.1.1) | exact (·.1.1.1) | exact (·.1.1.2)); exact rfl)
    | (apply Q_loada TYok; exact rfl; exact rfl; (refine Ev.of rfl ?_; first | exact fun _ => ⟨⟩ | exact id | exact And.right | exact And.left | exact (·.1.2) | exact (·.1.1) | exact (·.1.1.1) | exact (·.1.1.2)); exact rfl; exact rfl; exact rfl)
    | (apply Q_loadma TYok; exact rfl; exact rfl; (refine Ev.of rfl ?_; first | exact fun _ => ⟨⟩ | exact id | exact And.right | exact And.left | exact (·.1.2) | exact (·.1.1) | exact (·.1.1.1) | exact (·.1.1.2)); exact rfl; (intro hg; first | omega | (simp; omega) | (simp at hg; simp; omega)); exact rfl; infer_instance)); exact rfl))
          refine Le.mkR rfl rfl ?_ ?_ ?_ rfl
          · repeat (first | exact SubR.nil | apply SubR.p rfl rfl | apply SubR.s rfl rfl rfl | apply SubR.a rfl rfl rfl)
          · repeat (first | exact SubR.nil | apply SubR.p rfl rfl | apply SubR.s rfl rfl rfl | apply SubR.a rfl rfl rfl)
          · repeat (first | exact SubBR.nil | apply SubBR.cons rfl (by first | rfl | (simp only [List.map_append, List.map_cons, List.map_nil]; rfl)))
        exact LatI.nil
      refine LatL.cons (by kernel_rfl) ?_ ?_
      · refine LatI.consE (n := 163) (E := repE fs i d) (f := [(26, vP (aB b)), (30, vP (aF x))]) (bl := [(5, ⟨23, 4, [encB b]⟩), (7, ⟨46, 5, [encF x]⟩)]) (env := [(26, vP (aB b)), (30, vP (aF x)), (1, vP (slF fs)), (3, vI i), (4, vI d), (5, (True, .addr 5 0 0)), (7, (True, .addr 7 0 0)), (11, vB true)]) (f2 := [(26, vP (aB b)), (27, vS 27), (30, vP (aF x))]) (bl2 := [(27, ⟨46, 5, []⟩), (5, ⟨23, 4, [encB b]⟩), (7, ⟨46, 5, [encF x]⟩)]) rfl rfl rfl rfl ?_ ?_
        · repeat' (first
            | apply RG.nil
            | (apply S_lit TYok; (repeat (first | exact EvR.nil | apply EvR.cons (by refine Ev.of rfl ?_; first | exact fun _ => ⟨⟩ | exact id | exact And.right | exact And.left | exact (·.1.2) | exact (·.1.1) | exact (·.1.1.1) | exact (·.1.1.2)))); exact rfl; exact rfl; exact rfl; exact rfl; exact rfl; exact rfl; exact rfl; exact rfl; exact rfl))
          refine Le.mkR rfl rfl ?_ ?_ ?_ rfl
          · repeat (first | exact SubR.nil | apply SubR.p rfl rfl | apply SubR.s rfl rfl rfl | apply SubR.a rfl rfl rfl)
          · repeat (first | exact SubR.nil | apply SubR.p rfl rfl | apply SubR.s rfl rfl rfl | apply SubR.a rfl rfl rfl)
          · repeat (first | exact SubBR.nil | apply SubBR.cons rfl (by first | rfl | (simp only [List.map_append, List.map_cons, List.map_nil]; rfl)))
        refine LatI.consE (n := 163) (E := repE fs i d) (f := [(26, vP (aB b)), (30, vP (aF x))]) (bl := [(5, ⟨23, 4, [encB b]⟩), (7, ⟨46, 5, [encF x]⟩)]) (env := [(26, vP (aB b)), (30, vP (aF x)), (1, vP (slF fs)), (3, vI i), (4, vI d), (5, (True, .addr 5 0 0)), (7, (True, .addr 7 0 0)), (11, vB true)]) (f2 := [(26, vP (aB b)), (28, vP (slF fs)), (30, vP (aF x))]) (bl2 := [(5, ⟨23, 4, [encB b]⟩), (7, ⟨46, 5, [encF x]⟩)]) rfl rfl rfl rfl ?_ ?_
        · repeat' (first
            | apply RG.nil
            | ((first | apply U_); (first
    | (apply Q_move; (refine Ev.of rfl ?_; first | exact fun _ => ⟨⟩ | exact id | exact And.right | exact And.left | exact (·.1.2) | exact (·.1.1) | exact (·.1.1.1) | exact (·.1.1.2)))); exact rfl))
          refine Le.mkR rfl rfl ?_ ?_ ?_ rfl
          · repeat (first | exact SubR.nil | apply SubR.p rfl rfl | apply SubR.s rfl rfl rfl | apply SubR.a rfl rfl rfl)
          · repeat (first | exact SubR.nil | apply SubR.p rfl rfl | apply SubR.s rfl rfl rfl | apply SubR.a rfl rfl rfl)
          · repeat (first | exact SubBR.nil | apply SubBR.cons rfl (by first | rfl | (simp only [List.map_append, List.map_cons, List.map_nil]; rfl)))
        refine LatI.consE (n := 163) (E := repE fs i d) (f := [(26, vP (aB b)), (30, vP (aF x))]) (bl := [(5, ⟨23, 4, [encB b]⟩), (7, ⟨46, 5, [encF x]⟩)]) (env := [(26, vP (aB b)), (30, vP (aF x)), (1, vP (slF fs)), (3, vI i), (4, vI d), (5, (True, .addr 5 0 0)), (7, (True, .addr 7 0 0)), (11, vB true)]) (f2 := [(26, vP (aB b)), (30, vP (aF x)), (31, vS 31)]) (bl2 := [(31, ⟨46, 5, [encF x]⟩), (5, ⟨23, 4, [encB b]⟩), (7, ⟨46, 5, [encF x]⟩)]) rfl rfl rfl rfl ?_ ?_
        · repeat' (first
            | apply RG.nil
            | (apply S_lit TYok; (repeat (first | exact EvR.nil | apply EvR.cons (by refine Ev.of rfl ?_; first | exact fun _ => ⟨⟩ | exact id | exact And.right | exact And.left | exact (·.1.2) | exact (·.1.1) | exact (·.1.1.1) | exact (·.1.1.2)))); exact rfl; exact rfl; exact rfl; exact rfl; exact rfl; exact rfl; exact rfl; exact rfl; exact rfl))
          refine Le.mkR rfl rfl ?_ ?_ ?_ rfl
          · repeat (first | exact SubR.nil | apply SubR.p rfl rfl | apply SubR.s rfl rfl rfl | apply SubR.a rfl rfl rfl)
          · repeat (first | exact SubR.nil | apply SubR.p rfl rfl | apply SubR.s rfl rfl rfl | apply SubR.a rfl rfl rfl)
          · repeat (first | exact SubBR.nil | apply SubBR.cons rfl (by first | rfl | (simp only [List.map_append, List.map_cons, List.map_nil]; rfl)))
        exact LatI.nil
      refine LatL.cons (by kernel_rfl) ?_ ?_
      · refine LatI.consE (n := 163) (E := repE fs i d) (f := [(27, vS 27), (28, vP (slF fs))]) (bl := [(27, ⟨46, 5, []⟩), (5, ⟨23, 4, [encB b]⟩), (7, ⟨46, 5, [encF x]⟩)]) (env := [(27, vS 27), (28, vP (slF fs)), (1, vP (slF fs)), (3, vI i), (4, vI d), (5, (True, .addr 5 0 0)), (7, (True, .addr 7 0 0)), (11, vB true)]) (f2 := [(26, vP (aB b)), (27, vS 27), (28, vP (slF fs))]) (bl2 := [(27, ⟨46, 5, []⟩), (5, ⟨23, 4, [encB b]⟩), (7, ⟨46, 5, [encF x]⟩)]) rfl rfl rfl rfl ?_ ?_
        · repeat' (first
            | apply RG.nil
            | ((first | apply U_); (first
    | (apply Q_loadp TYok; exact rfl; exact rfl; (refine Ev.of rfl ?_; first | exact fun _ => ⟨⟩ | exact id | exact And.right | exact And.left | exact (·.1.2) | exact (·.1.1) | exact (·.1.1.1) | exact (·.1.1.2)); exact rfl)
    | (apply Q_load TYok; exact rfl; exact rfl; (refine Ev.of rfl ?_; first | exact fun _ => ⟨⟩ | exact id | exact And.right | exact And.left | exact (·.1.2) | exact (·.1.1) | exact (·.1.1.1) | exact (·.1.1.2)); exact rfl; exact rfl; exact rfl)
    | (apply Q_loadm TYok; exact rfl; exact rfl; (refine Ev.of rfl ?_; first | exact fun _ => ⟨⟩ | exact id | exact And.right | exact And.left | exact (·.1.2) | exact (·.1.1) | exact (·.1.1.1) | exact (·.1.1.2)); exact rfl; (intro hg; first | omega | (simp; omega) | (simp at hg; simp; omega)); exact rfl; infer_instance)
    | (apply Q_loadpa TYok; exact rfl; exact rfl; (refine Ev.of rfl ?_; first | exact fun _ => ⟨⟩ | exact id | exact And.right | exact And.left | exact (·.1.2) | exact (·.1.1) | exact (·.1.1.1) | exact (·.1.1.2)); exact rfl)
    | (apply Q_loada TYok; exact rfl; exact rfl; (refine Ev.of rfl ?_; first | exact fun _ => ⟨⟩ | exact id | exact And.right | exact And.left | exact (·.1.2) | exact (·.1.1) | exact (·.1.1.1) | exact (·.1.1.2)); exact rfl; exact rfl; exact rfl)
    | (apply Q_loadma TYok; exact rfl; exact rfl; (refine Ev.of rfl ?_; first | exact fun _ => ⟨⟩ | exact id | exact And.right | exact And.left | exact (·.1.2) | exact (·.1.1) | exact (·.1.1.1) | exact (·.1.1.2)); exact rfl; (intro hg; first | omega | (simp; omega) | (simp at hg; simp; omega)); exact rfl; infer_instance)); exact rfl))
          refine Le.mkR rfl rfl ?_ ?_ ?_ rfl
          · repeat (first | exact SubR.nil | apply SubR.p rfl rfl | apply SubR.s rfl rfl rfl | apply SubR.a rfl rfl rfl)
          · repeat (first | exact SubR.nil | apply SubR.p rfl rfl | apply SubR.s rfl rfl rfl | apply SubR.a rfl rfl rfl)
          · repeat (first | exact SubBR.nil | apply SubBR.cons rfl (by first | rfl | (simp only [List.map_append, List.map_cons, List.map_nil]; rfl)))
        refine LatI.consE (n := 163) (E := repE fs i d) (f := [(27, vS 27), (28, vP (slF fs))]) (bl := [(27, ⟨46, 5, []⟩), (5, ⟨23, 4, [encB b]⟩), (7, ⟨46, 5, [encF x]⟩)]) (env := [(27, vS 27), (28, vP (slF fs)), (1, vP (slF fs)), (3, vI i), (4, vI d), (5, (True, .addr 5 0 0)), (7, (True, .addr 7 0 0)), (11, vB true)]) (f2 := [(28, vP (slF fs)), (29, vS 29)]) (bl2 := [(29, ⟨46, 5, fs.map encF⟩), (5, ⟨23, 4, [encB b]⟩), (7, ⟨46, 5, [encF x]⟩)]) rfl rfl rfl rfl ?_ ?_
        · repeat' (first
            | apply RG.nil
            | (apply S_append TYok; (refine Ev.of rfl ?_; first | exact fun _ => ⟨⟩ | exact id | exact And.right | exact And.left | exact (·.1.2) | exact (·.1.1) | exact (·.1.1.1) | exact (·.1.1.2)); (refine Ev.of rfl ?_; first | exact fun _ => ⟨⟩ | exact id | exact And.right | exact And.left | exact (·.1.2) | exact (·.1.1) | exact (·.1.1.1) | exact (·.1.1.2)); exact rfl; exact rfl; exact rfl; exact rfl; exact rfl; exact rfl; exact rfl; exact rfl; exact rfl; exact rfl; (constructor <;> simp <;> omega); exact rfl)
            | (apply S_append0 TYok; (refine Ev.of rfl ?_; first | exact fun _ => ⟨⟩ | exact id | exact And.right | exact And.left | exact (·.1.2) | exact (·.1.1) | exact (·.1.1.1) | exact (·.1.1.2)); (refine Ev.of rfl ?_; first | exact fun _ => ⟨⟩ | exact id | exact And.right | exact And.left | exact (·.1.2) | exact (·.1.1) | exact (·.1.1.1) | exact (·.1.1.2)); exact rfl; exact rfl; exact rfl; exact rfl; exact rfl; exact rfl; exact rfl; (constructor <;> simp <;> omega); exact rfl; exact rfl)
            | (apply S_appendd TYok; (refine Ev.of rfl ?_; first | exact fun _ => ⟨⟩ | exact id | exact And.right | exact And.left | exact (·.1.2) | exact (·.1.1) | exact (·.1.1.1) | exact (·.1.1.2)); (refine Ev.of rfl ?_; first | exact fun _ => ⟨⟩ | exact id | exact And.right | exact And.left | exact (·.1.2) | exact (·.1.1) | exact (·.1.1.1) | exact (·.1.1.2)); exact rfl; exact rfl; exact rfl; exact rfl; exact rfl; exact rfl; exact rfl; exact rfl; (intro r hr; obtain ⟨_, _, rfl⟩ := List.mem_map.1 hr; rfl); (constructor <;> simp <;> omega); exact rfl))
          refine Le.mkR rfl rfl ?_ ?_ ?_ rfl
          · repeat (first | exact SubR.nil | apply SubR.p rfl rfl | apply SubR.s rfl rfl rfl | apply SubR.a rfl rfl rfl)
          · repeat (first | exact SubR.nil | apply SubR.p rfl rfl | apply SubR.s rfl rfl rfl | apply SubR.a rfl rfl rfl)
          · repeat (first | exact SubBR.nil | apply SubBR.cons rfl (by first | rfl | (simp only [List.map_append, List.map_cons, List.map_nil]; rfl)))
        refine LatI.consE (n := 163) (E := repE fs i d) (f := [(27, vS 27), (28, vP (slF fs))]) (bl := [(27, ⟨46, 5, []⟩), (5, ⟨23, 4, [encB b]⟩), (7, ⟨46, 5, [encF x]⟩)]) (env := [(27, vS 27), (28, vP (slF fs)), (1, vP (slF fs)), (3, vI i), (4, vI d), (5, (True, .addr 5 0 0)), (7, (True, .addr 7 0 0)), (11, vB true)]) (f2 := [(27, vS 27), (28, vP (slF fs)), (30, vP (aF x))]) (bl2 := [(27, ⟨46, 5, []⟩), (5, ⟨23, 4, [encB b]⟩), (7, ⟨46, 5, [encF x]⟩)]) rfl rfl rfl rfl ?_ ?_
        · repeat' (first
            | apply RG.nil
            | ((first | apply U_); (first
    | (apply Q_loadp TYok; exact rfl; exact rfl; (refine Ev.of rfl ?_; first | exact fun _ => ⟨⟩ | exact id | exact And.right | exact And.left | exact (·.1.2) | exact (·.1.1) | exact (·.1.1.1) | exact (·.1.1.2)); exact rfl)
    | (apply Q_load TYok; exact rfl; exact rfl; (refine Ev.of rfl ?_; first | exact fun _ => ⟨⟩ | exact id | exact And.right | exact And.left | exact (·.1.2) | exact (·.1.1) | exact (·.1.1.1) | exact (·.1.1.2)); exact rfl; exact rfl; exact rfl)
    | (apply Q_loadm TYok; exact rfl; exact rfl; (refine Ev.of rfl ?_; first | exact fun _ => ⟨⟩ | exact id | exact And.right | exact And.left | exact (·.1.2) | exact (·.1.1) | exact (·.1.1.1) | exact (·.1.1.2)); exact rfl; (intro hg; first | omega | (simp; omega) | (simp at hg; simp; omega)); exact rfl; infer_instance)
    | (apply Q_loadpa TYok; exact rfl; exact rfl; (refine Ev.of rfl ?_; first | exact fun _ => ⟨⟩ | exact id | exact And.right | exact And.left | exact (·.1.2) | exact (·.1.1) | exact (·.1.1.1) | exact (·.1.1.2)); exact rfl)
    | (apply Q_loada TYok; exact rfl; exact rfl; (refine Ev.of rfl ?_; first | exact fun _ => ⟨⟩ | exact id | exact And.right | exact And.left | exact (·.1.2) | exact (·.1.1) | exact (·.1.1.1) | exact (·.1.1.2)); exact rfl; exact rfl; exact rfl)
    | (apply Q_loadma TYok; exact rfl; exact rfl; (refine Ev.of rfl ?_; first | exact fun _ => ⟨⟩ | exact id | exact And.right | exact And.left | exact (·.1.2) | exact (·.1.1) | exact (·.1.1.1) | exact (·.1.1.2)); exact rfl; (intro hg; first | omega | (simp; omega) | (simp at hg; simp; omega)); exact rfl; infer_instance)); exact rfl))
          refine Le.mkR rfl rfl ?_ ?_ ?_ rfl
          · repeat (first | exact SubR.nil | apply SubR.p rfl rfl | apply SubR.s rfl rfl rfl | apply SubR.a rfl rfl rfl)
          · repeat (first | exact SubR.nil | apply SubR.p rfl rfl | apply SubR.s rfl rfl rfl | apply SubR.a rfl rfl rfl)
          · repeat (first | exact SubBR.nil | apply SubBR.cons rfl (by first | rfl | (simp only [List.map_append, List.map_cons, List.map_nil]; rfl)))
        exact LatI.nil
      refine LatL.cons (by kernel_rfl) ?_ ?_
      · refine LatI.consE (n := 163) (E := repE fs i d) (f := [(27, vS 27), (30, vP (aF x))]) (bl := [(27, ⟨46, 5, []⟩), (5, ⟨23, 4, [encB b]⟩), (7, ⟨46, 5, [encF x]⟩)]) (env := [(27, vS 27), (30, vP (aF x)), (1, vP (slF fs)), (3, vI i), (4, vI d), (5, (True, .addr 5 0 0)), (7, (True, .addr 7 0 0)), (11, vB true)]) (f2 := [(26, vP (aB b)), (27, vS 27), (30, vP (aF x))]) (bl2 := [(27, ⟨46, 5, []⟩), (5, ⟨23, 4, [encB b]⟩), (7, ⟨46, 5, [encF x]⟩)]) rfl rfl rfl rfl ?_ ?_
        · repeat' (first
            | apply RG.nil
            | ((first | apply U_); (first
    | (apply Q_loadp TYok; exact rfl; exact rfl; (refine Ev.of rfl ?_; first | exact fun _ => ⟨⟩ | exact id | exact And.right | exact And.left | exact (·.1.2) | exact (·.1.1) | exact (·.1.1.1) | exact (·.1.1.2)); exact rfl)
    | (apply Q_load TYok; exact rfl; exact rfl; (refine Ev.of rfl ?_; first | exact fun _ => ⟨⟩ | exact id | exact And.right | exact And.left | exact (·.1.2) | exact (·.1.1) | exact (·.1.1.1) | exact (·.1.1.2)); exact rfl; exact rfl; exact rfl)
    | (apply Q_loadm TYok; exact rfl; exact rfl; (refine Ev.of rfl ?_; first | exact fun _ => ⟨⟩ | exact id | exact And.right | exact And.left | exact (·.1.2) | exact (·.1.1) | exact (·.1.1.1) | exact (·.1.1.2)); exact rfl; (intro hg; first | omega | (simp; omega) | (simp at hg; simp; omega)); exact rfl; infer_instance)
    | (apply Q_loadpa TYok; exact rfl; exact rfl; (refine Ev.of rfl ?_; first | exact fun _ => ⟨⟩ | exact id | exact And.right | exact And.left | exact (·.1.2) | exact (·.1.1) | exact (·.1.1.1) | exact (·.1.1.2)); exact rfl)
    | (apply Q_loada TYok; exact rfl; exact rfl; (refine Ev.of rfl ?_; first | exact fun _ => ⟨⟩ | exact id | exact And.right | exact And.left | exact (·.1.2) | exact (·.1.1) | exact (·.1.1.1) | exact (·.1.1.2)); exact rfl; exact rfl; exact rfl)
    | (apply Q_loadma TYok; exact rfl; exact rfl; (refine Ev.of rfl ?_; first | exact fun _ => ⟨⟩ | exact id | exact And.right | exact And.left | exact (·.1.2) | exact (·.1.1) | exact (·.1.1.1) | exact (·.1.1.2)); exact rfl; (intro hg; first | omega | (simp; omega) | (simp at hg; simp; omega)); exact rfl; infer_instance)); exact rfl))
          refine Le.mkR rfl rfl ?_ ?_ ?_ rfl
          · repeat (first | exact SubR.nil | apply SubR.p rfl rfl | apply SubR.s rfl rfl rfl | apply SubR.a rfl rfl rfl)
          · repeat (first | exact SubR.nil | apply SubR.p rfl rfl | apply SubR.s rfl rfl rfl | apply SubR.a rfl rfl rfl)
          · repeat (first | exact SubBR.nil | apply SubBR.cons rfl (by first | rfl | (simp only [List.map_append, List.map_cons, List.map_nil]; rfl)))
        refine LatI.consE (n := 163) (E := repE fs i d) (f := [(27, vS 27), (30, vP (aF x))]) (bl := [(27, ⟨46, 5, []⟩), (5, ⟨23, 4, [encB b]⟩), (7, ⟨46, 5, [encF x]⟩)]) (env := [(27, vS 27), (30, vP (aF x)), (1, vP (slF fs)), (3, vI i), (4, vI d), (5, (True, .addr 5 0 0)), (7, (True, .addr 7 0 0)), (11, vB true)]) (f2 := [(27, vS 27), (28, vP (slF fs)), (30, vP (aF x))]) (bl2 := [(27, ⟨46, 5, []⟩), (5, ⟨23, 4, [encB b]⟩), (7, ⟨46, 5, [encF x]⟩)]) rfl rfl rfl rfl ?_ ?_
        · repeat' (first
            | apply RG.nil
            | ((first | apply U_); (first
    | (apply Q_move; (refine Ev.of rfl ?_; first | exact fun _ => ⟨⟩ | exact id | exact And.right | exact And.left | exact (·.1.2) | exact (·.1.1) | exact (·.1.1.1) | exact (·.1.1.2)))); exact rfl))
          refine Le.mkR rfl rfl ?_ ?_ ?_ rfl
          · repeat (first | exact SubR.nil | apply SubR.p rfl rfl | apply SubR.s rfl rfl rfl | apply SubR.a rfl rfl rfl)
          · repeat (first | exact SubR.nil | apply SubR.p rfl rfl | apply SubR.s rfl rfl rfl | apply SubR.a rfl rfl rfl)
          · repeat (first | exact SubBR.nil | apply SubBR.cons rfl (by first | rfl | (simp only [List.map_append, List.map_cons, List.map_nil]; rfl)))
        refine LatI.consE (n := 163) (E := repE fs i d) (f := [(27, vS 27), (30, vP (aF x))]) (bl := [(27, ⟨46, 5, []⟩), (5, ⟨23, 4, [encB b]⟩), (7, ⟨46, 5, [encF x]⟩)]) (env := [(27, vS 27), (30, vP (aF x)), (1, vP (slF fs)), (3, vI i), (4, vI d), (5, (True, .addr 5 0 0)), (7, (True, .addr 7 0 0)), (11, vB true)]) (f2 := [(27, vS 27), (30, vP (aF x)), (31, vS 31)]) (bl2 := [(27, ⟨46, 5, []⟩), (31, ⟨46, 5, [encF x]⟩), (5, ⟨23, 4, [encB b]⟩), (7, ⟨46, 5, [encF x]⟩)]) rfl rfl rfl rfl ?_ ?_
        · repeat' (first
            | apply RG.nil
            | (apply S_lit TYok; (repeat (first | exact EvR.nil | apply EvR.cons (by refine Ev.of rfl ?_; first | exact fun _ => ⟨⟩ | exact id | exact And.right | exact And.left | exact (·.1.2) | exact (·.1.1) | exact (·.1.1.1) | exact (·.1.1.2)))); exact rfl; exact rfl; exact rfl; exact rfl; exact rfl; exact rfl; exact rfl; exact rfl; exact rfl))
          refine Le.mkR rfl rfl ?_ ?_ ?_ rfl
          · repeat (first | exact SubR.nil | apply SubR.p rfl rfl | apply SubR.s rfl rfl rfl | apply SubR.a rfl rfl rfl)
          · repeat (first | exact SubR.nil | apply SubR.p rfl rfl | apply SubR.s rfl rfl rfl | apply SubR.a rfl rfl rfl)
          · repeat (first | exact SubBR.nil | apply SubBR.cons rfl (by first | rfl | (simp only [List.map_append, List.map_cons, List.map_nil]; rfl)))
        exact LatI.nil
      refine LatL.cons (by kernel_rfl) ?_ ?_
      · refine LatI.consE (n := 163) (E := repE fs i d) (f := [(28, vP (slF fs)), (30, vP (aF x))]) (bl := [(5, ⟨23, 4, [encB b]⟩), (7, ⟨46, 5, [encF x]⟩)]) (env := [(28, vP (slF fs)), (30, vP (aF x)), (1, vP (slF fs)), (3, vI i), (4, vI d), (5, (True, .addr 5 0 0)), (7, (True, .addr 7 0 0)), (11, vB true)]) (f2 := [(26, vP (aB b)), (28, vP (slF fs)), (30, vP (aF x))]) (bl2 := [(5, ⟨23, 4, [encB b]⟩), (7, ⟨46, 5, [encF x]⟩)]) rfl rfl rfl rfl ?_ ?_
        · repeat' (first
            | apply RG.nil
            | ((first | apply U_); (first
    | (apply Q_loadp TYok; exact rfl; exact rfl; (refine Ev.of rfl ?_; first | exact fun _ => ⟨⟩ | exact id | exact And.right | exact And.left | exact (·.1.2) | exact (·.1.1) | exact (·.1.1.1) | exact (·.1.1.2)); exact rfl)
    | (apply Q_load TYok; exact rfl; exact rfl; (refine Ev.of rfl ?_; first | exact fun _ => ⟨⟩ | exact id | exact And.right | exact And.left | exact (·.1.2) | exact (·.1.1) | exact (·.1.1.1) | exact (·.1.1.2)); exact rfl; exact rfl; exact rfl)
    | (apply Q_loadm TYok; exact rfl; exact rfl; (refine Ev.of rfl ?_; first | exact fun _ => ⟨⟩ | exact id | exact And.right | exact And.left | exact (·.1.2) | exact (·.1.1) | exact (·.1.1.1) | exact (·.1.1.2)); exact rfl; (intro hg; first | omega | (simp; omega) | (simp at hg; simp; omega)); exact rfl; infer_instance)
    | (apply Q_loadpa TYok; exact rfl; exact rfl; (refine Ev.of rfl ?_; first | exact fun _ => ⟨⟩ | exact id | exact And.right | exact And.left | exact (·.1.2) | exact (·.1.1) | exact (·.1.1.1) | exact (·.1.1.2)); exact rfl)
    | (apply Q_loada TYok; exact rfl; exact rfl; (refine Ev.of rfl ?_; first | exact fun _ => ⟨⟩ | exact id | exact And.right | exact And.left | exact (·.1.2) | exact (·.1.1) | exact (·.1.1.1) | exact (·.1.1.2)); exact rfl; exact rfl; exact rfl)
    | (apply Q_loadma TYok; exact rfl; exact rfl; (refine Ev.of rfl ?_; first | exact fun _ => ⟨⟩ | exact id | exact And.right | exact And.left | exact (·.1.2) | exact (·.1.1) | exact (·.1.1.1) | exact (·.1.1.2)); exact rfl; (intro hg; first | omega | (simp; omega) | (simp at hg; simp; omega)); exact rfl; infer_instance)); exact rfl))
          refine Le.mkR rfl rfl ?_ ?_ ?_ rfl
          · repeat (first | exact SubR.nil | apply SubR.p rfl rfl | apply SubR.s rfl rfl rfl | apply SubR.a rfl rfl rfl)
          · repeat (first | exact SubR.nil | apply SubR.p rfl rfl | apply SubR.s rfl rfl rfl | apply SubR.a rfl rfl rfl)
          · repeat (first | exact SubBR.nil | apply SubBR.cons rfl (by first | rfl | (simp only [List.map_append, List.map_cons, List.map_nil]; rfl)))
        refine LatI.consE (n := 163) (E := repE fs i d) (f := [(28, vP (slF fs)), (30, vP (aF x))]) (bl := [(5, ⟨23, 4, [encB b]⟩), (7, ⟨46, 5, [encF x]⟩)]) (env := [(28, vP (slF fs)), (30, vP (aF x)), (1, vP (slF fs)), (3, vI i), (4, vI d), (5, (True, .addr 5 0 0)), (7, (True, .addr 7 0 0)), (11, vB true)]) (f2 := [(27, vS 27), (28, vP (slF fs)), (30, vP (aF x))]) (bl2 := [(27, ⟨46, 5, []⟩), (5, ⟨23, 4, [encB b]⟩), (7, ⟨46, 5, [encF x]⟩)]) rfl rfl rfl rfl ?_ ?_
        · repeat' (first
            | apply RG.nil
            | (apply S_lit TYok; (repeat (first | exact EvR.nil | apply EvR.cons (by refine Ev.of rfl ?_; first | exact fun _ => ⟨⟩ | exact id | exact And.right | exact And.left | exact (·.1.2) | exact (·.1.1) | exact (·.1.1.1) | exact (·.1.1.2)))); exact rfl; exact rfl; exact rfl; exact rfl; exact rfl; exact rfl; exact rfl; exact rfl; exact rfl))
          refine Le.mkR rfl rfl ?_ ?_ ?_ rfl
          · repeat (first | exact SubR.nil | apply SubR.p rfl rfl | apply SubR.s rfl rfl rfl | apply SubR.a rfl rfl rfl)
          · repeat (first | exact SubR.nil | apply SubR.p rfl rfl | apply SubR.s rfl rfl rfl | apply SubR.a rfl rfl rfl)
          · repeat (first | exact SubBR.nil | apply SubBR.cons rfl (by first | rfl | (simp only [List.map_append, List.map_cons, List.map_nil]; rfl)))
        refine LatI.consE (n := 163) (E := repE fs i d) (f := [(28, vP (slF fs)), (30, vP (aF x))]) (bl := [(5, ⟨23, 4, [encB b]⟩), (7, ⟨46, 5, [encF x]⟩)]) (env := [(28, vP (slF fs)), (30, vP (aF x)), (1, vP (slF fs)), (3, vI i), (4, vI d), (5, (True, .addr 5 0 0)), (7, (True, .addr 7 0 0)), (11, vB true)]) (f2 := [(28, vP (slF fs)), (30, vP (aF x)), (31, vS 31)]) (bl2 := [(31, ⟨46, 5, [encF x]⟩), (5, ⟨23, 4, [encB b]⟩), (7, ⟨46, 5, [encF x]⟩)]) rfl rfl rfl rfl ?_ ?_
        · repeat' (first
            | apply RG.nil
            | (apply S_lit TYok; (repeat (first | exact EvR.nil | apply EvR.cons (by refine Ev.of rfl ?_; first | exact fun _ => ⟨⟩ | exact id | exact And.right | exact And.left | exact (·.1.2) | exact (·.1.1) | exact (·.1.1.1) | exact (·.1.1.2)))); exact rfl; exact rfl; exact rfl; exact rfl; exact rfl; exact rfl; exact rfl; exact rfl; exact rfl))
          refine Le.mkR rfl rfl ?_ ?_ ?_ rfl
          · repeat (first | exact SubR.nil | apply SubR.p rfl rfl | apply SubR.s rfl rfl rfl | apply SubR.a rfl rfl rfl)
          · repeat (first | exact SubR.nil | apply SubR.p rfl rfl | apply SubR.s rfl rfl rfl | apply SubR.a rfl rfl rfl)
          · repeat (first | exact SubBR.nil | apply SubBR.cons rfl (by first | rfl | (simp only [List.map_append, List.map_cons, List.map_nil]; rfl)))
        exact LatI.nil
      refine LatL.cons (by kernel_rfl) ?_ ?_
      · refine LatI.consE (n := 163) (E := repE fs i d) (f := [(30, vP (aF x)), (31, vS 31)]) (bl := [(31, ⟨46, 5, [encF x]⟩), (5, ⟨23, 4, [encB b]⟩), (7, ⟨46, 5, [encF x]⟩)]) (env := [(30, vP (aF x)), (31, vS 31), (1, vP (slF fs)), (3, vI i), (4, vI d), (5, (True, .addr 5 0 0)), (7, (True, .addr 7 0 0)), (11, vB true)]) (f2 := [(26, vP (aB b)), (30, vP (aF x)), (31, vS 31)]) (bl2 := [(31, ⟨46, 5, [encF x]⟩), (5, ⟨23, 4, [encB b]⟩), (7, ⟨46, 5, [encF x]⟩)]) rfl rfl rfl rfl ?_ ?_
        · repeat' (first
            | apply RG.nil
            | ((first | apply U_); (first
    | (apply Q_loadp TYok; exact rfl; exact rfl; (refine Ev.of rfl ?_; first | exact fun _ => ⟨⟩ | exact id | exact And.right | exact And.left | exact (·.1.2) | exact (·.1.1) | exact (·.1.1.1) | exact (·.1.1.2)); exact rfl)
    | (apply Q_load TYok; exact rfl; exact rfl; (refine Ev.of rfl ?_; first | exact fun _ => ⟨⟩ | exact id | exact And.right | exact And.left | exact (·.1.2) | exact (·.1.1) | exact (·.1.1.1) | exact (·.1.1.2)); exact rfl; exact rfl; exact rfl)
    | (apply Q_loadm TYok; exact rfl; exact rfl; (refine Ev.of rfl ?_; first | exact fun _ => ⟨⟩ | exact id | exact And.right | exact And.left | exact (·.1.2) | exact (·.1.1) | exact (·.1.1.1) | exact (·.1.1.2)); exact rfl; (intro hg; first | omega | (simp; omega) | (simp at hg; simp; omega)); exact rfl; infer_instance)
    | (apply Q_loadpa TYok; exact rfl; exact rfl; (refine Ev.of rfl ?_; first | exact fun _ => ⟨⟩ | exact id | exact And.right | exact And.left | exact (·.1.2) | exact (·.1.1) | exact (·.1.1.1) | exact (·.1.1.2)); exact rfl)
    | (apply Q_loada TYok; exact rfl; exact rfl; (refine Ev.of rfl ?_; first | exact fun _ => ⟨⟩ | exact id | exact And.right | exact And.left | exact (·.1.2) | exact (·.1.1) | exact (·.1.1.1) | exact (·.1.1.2)); exact rfl; exact rfl; exact rfl)
    | (apply Q_loadma TYok; exact rfl; exact rfl; (refine Ev.of rfl ?_; first | exact fun _ => ⟨⟩ | exact id | exact And.right | exact And.left | exact (·.1.2) | exact (·.1.1) | exact (·.1.1.1) | exact (·.1.1.2)); exact rfl; (intro hg; first | omega | (simp; omega) | (simp at hg; simp; omega)); exact rfl; infer_instance)); exact rfl))
          refine Le.mkR rfl rfl ?_ ?_ ?_ rfl
          · repeat (first | exact SubR.nil | apply SubR.p rfl rfl | apply SubR.s rfl rfl rfl | apply SubR.a rfl rfl rfl)
          · repeat (first | exact SubR.nil | apply SubR.p rfl rfl | apply SubR.s rfl rfl rfl | apply SubR.a rfl rfl rfl)
          · repeat (first | exact SubBR.nil | apply SubBR.cons rfl (by first | rfl | (simp only [List.map_append, List.map_cons, List.map_nil]; rfl)))
        refine LatI.consE (n := 163) (E := repE fs i d) (f := [(30, vP (aF x)), (31, vS 31)]) (bl := [(31, ⟨46, 5, [encF x]⟩), (5, ⟨23, 4, [encB b]⟩), (7, ⟨46, 5, [encF x]⟩)]) (env := [(30, vP (aF x)), (31, vS 31), (1, vP (slF fs)), (3, vI i), (4, vI d), (5, (True, .addr 5 0 0)), (7, (True, .addr 7 0 0)), (11, vB true)]) (f2 := [(27, vS 27), (30, vP (aF x)), (31, vS 31)]) (bl2 := [(27, ⟨46, 5, []⟩), (31, ⟨46, 5, [encF x]⟩), (5, ⟨23, 4, [encB b]⟩), (7, ⟨46, 5, [encF x]⟩)]) rfl rfl rfl rfl ?_ ?_
        · repeat' (first
            | apply RG.nil
            | (apply S_lit TYok; (repeat (first | exact EvR.nil | apply EvR.cons (by refine Ev.of rfl ?_; first | exact fun _ => ⟨⟩ | exact id | exact And.right | exact And.left | exact (·.1.2) | exact (·.1.1) | exact (·.1.1.1) | exact (·.1.1.2)))); exact rfl; exact rfl; exact rfl; exact rfl; exact rfl; exact rfl; exact rfl; exact rfl; exact rfl))
          refine Le.mkR rfl rfl ?_ ?_ ?_ rfl
          · repeat (first | exact SubR.nil | apply SubR.p rfl rfl | apply SubR.s rfl rfl rfl | apply SubR.a rfl rfl rfl)
          · repeat (first | exact SubR.nil | apply SubR.p rfl rfl | apply SubR.s rfl rfl rfl | apply SubR.a rfl rfl rfl)
          · repeat (first | exact SubBR.nil | apply SubBR.cons rfl (by first | rfl | (simp only [List.map_append, List.map_cons, List.map_nil]; rfl)))
        refine LatI.consE (n := 163) (E := repE fs i d) (f := [(30, vP (aF x)), (31, vS 31)]) (bl := [(31, ⟨46, 5, [encF x]⟩), (5, ⟨23, 4, [encB b]⟩), (7, ⟨46, 5, [encF x]⟩)]) (env := [(30, vP (aF x)), (31, vS 31), (1, vP (slF fs)), (3, vI i), (4, vI d), (5, (True, .addr 5 0 0)), (7, (True, .addr 7 0 0)), (11, vB true)]) (f2 := [(28, vP (slF fs)), (30, vP (aF x)), (31, vS 31)]) (bl2 := [(31, ⟨46, 5, [encF x]⟩), (5, ⟨23, 4, [encB b]⟩), (7, ⟨46, 5, [encF x]⟩)]) rfl rfl rfl rfl ?_ ?_
        · repeat' (first
            | apply RG.nil
            | ((first | apply U_); (first
    | (apply Q_move; (refine Ev.of rfl ?_; first | exact fun _ => ⟨⟩ | exact id | exact And.right | exact And.left | exact (·.1.2) | exact (·.1.1) | exact (·.1.1.1) | exact (·.1.1.2)))); exact rfl))
          refine Le.mkR rfl rfl ?_ ?_ ?_ rfl
          · repeat (first | exact SubR.nil | apply SubR.p rfl rfl | apply SubR.s rfl rfl rfl | apply SubR.a rfl rfl rfl)
          · repeat (first | exact SubR.nil | apply SubR.p rfl rfl | apply SubR.s rfl rfl rfl | apply SubR.a rfl rfl rfl)
          · repeat (first | exact SubBR.nil | apply SubBR.cons rfl (by first | rfl | (simp only [List.map_append, List.map_cons, List.map_nil]; rfl)))
        exact LatI.nil
      refine LatL.cons (by kernel_rfl) ?_ ?_
      · refine LatI.consE (n := 163) (E := repE fs i d) (f := [(26, vP (aB b)), (27, vS 27), (28, vP (slF fs))]) (bl := [(27, ⟨46, 5, []⟩), (5, ⟨23, 4, [encB b]⟩), (7, ⟨46, 5, [encF x]⟩)]) (env := [(26, vP (aB b)), (27, vS 27), (28, vP (slF fs)), (1, vP (slF fs)), (3, vI i), (4, vI d), (5, (True, .addr 5 0 0)), (7, (True, .addr 7 0 0)), (11, vB true)]) (f2 := [(26, vP (aB b)), (28, vP (slF fs)), (29, vS 29)]) (bl2 := [(29, ⟨46, 5, fs.map encF⟩), (5, ⟨23, 4, [encB b]⟩), (7, ⟨46, 5, [encF x]⟩)]) rfl rfl rfl rfl ?_ ?_
        · repeat' (first
            | apply RG.nil
            | (apply S_append TYok; (refine Ev.of rfl ?_; first | exact fun _ => ⟨⟩ | exact id | exact And.right | exact And.left | exact (·.1.2) | exact (·.1.1) | exact (·.1.1.1) | exact (·.1.1.2)); (refine Ev.of rfl ?_; first | exact fun _ => ⟨⟩ | exact id | exact And.right | exact And.left | exact (·.1.2) | exact (·.1.1) | exact (·.1.1.1) | exact (·.1.1.2)); exact rfl; exact rfl; exact rfl; exact rfl; exact rfl; exact rfl; exact rfl; exact rfl; exact rfl; exact rfl; (constructor <;> simp <;> omega); exact rfl)
            | (apply S_append0 TYok; (refine Ev.of rfl ?_; first | exact fun _ => ⟨⟩ | exact id | exact And.right | exact And.left | exact (·.1.2) | exact (·.1.1) | exact (·.1.1.1) | exact (·.1.1.2)); (refine Ev.of rfl ?_; first | exact fun _ => ⟨⟩ | exact id | exact And.right | exact And.left | exact (·.1.2) | exact (·.1.1) | exact (·.1.1.1) | exact (·.1.1.2)); exact rfl; exact rfl; exact rfl; exact rfl; exact rfl; exact rfl; exact rfl; (constructor <;> simp <;> omega); exact rfl; exact rfl)
            | (apply S_appendd TYok; (refine Ev.of rfl ?_; first | exact fun _ => ⟨⟩ | exact id | exact And.right | exact And.left | exact (·.1.2) | exact (·.1.1) | exact (·.1.1.1) | exact (·.1.1.2)); (refine Ev.of rfl ?_; first | exact fun _ => ⟨⟩ | exact id | exact And.right | exact And.left | exact (·.1.2) | exact (·.1.1) | exact (·.1.1.1) | exact (·.1.1.2)); exact rfl; exact rfl; exact rfl; exact rfl; exact rfl; exact rfl; exact rfl; exact rfl; (intro r hr; obtain ⟨_, _, rfl⟩ := List.mem_map.1 hr; rfl); (constructor <;> simp <;> omega); exact rfl))
          refine Le.mkR rfl rfl ?_ ?_ ?_ rfl
          · repeat (first | exact SubR.nil | apply SubR.p rfl rfl | apply SubR.s rfl rfl rfl | apply SubR.a rfl rfl rfl)
          · repeat (first | exact SubR.nil | apply SubR.p rfl rfl | apply SubR.s rfl rfl rfl | apply SubR.a rfl rfl rfl)
          · repeat (first | exact SubBR.nil | apply SubBR.cons rfl (by first | rfl | (simp only [List.map_append, List.map_cons, List.map_nil]; rfl)))
        refine LatI.consE (n := 163) (E := repE fs i d) (f := [(26, vP (aB b)), (27, vS 27), (28, vP (slF fs))]) (bl := [(27, ⟨46, 5, []⟩), (5, ⟨23, 4, [encB b]⟩), (7, ⟨46, 5, [encF x]⟩)]) (env := [(26, vP (aB b)), (27, vS 27), (28, vP (slF fs)), (1, vP (slF fs)), (3, vI i), (4, vI d), (5, (True, .addr 5 0 0)), (7, (True, .addr 7 0 0)), (11, vB true)]) (f2 := [(26, vP (aB b)), (27, vS 27), (28, vP (slF fs)), (30, vP (aF x))]) (bl2 := [(27, ⟨46, 5, []⟩), (5, ⟨23, 4, [encB b]⟩), (7, ⟨46, 5, [encF x]⟩)]) rfl rfl rfl rfl ?_ ?_
        · repeat' (first
            | apply RG.nil
            | ((first | apply U_); (first
    | (apply Q_loadp TYok; exact rfl; exact rfl; (refine Ev.of rfl ?_; first | exact fun _ => ⟨⟩ | exact id | exact And.right | exact And.left | exact (·.1.2) | exact (·.1.1) | exact (·.1.1.1) | exact (·.1.1.2)); exact rfl)
    | (apply Q_load TYok; exact rfl; exact rfl; (refine Ev.of rfl ?_; first | exact fun _ => ⟨⟩ | exact id | exact And.right | exact And.left | exact (·.1.2) | exact (·.1.1) | exact (·.1.1.1) | exact (·.1.1.2)); exact rfl; exact rfl; exact rfl)
    | (apply Q_loadm TYok; exact rfl; exact rfl; (refine Ev.of rfl ?_; first | exact fun _ => ⟨⟩ | exact id | exact And.right | exact And.left | exact (·.1.2) | exact (·.1.1) | exact (·.1.1.1) | exact (·.1.1.2)); exact rfl; (intro hg; first | omega | (simp; omega) | (simp at hg; simp; omega)); exact rfl; infer_instance)
    | (apply Q_loadpa TYok; exact rfl; exact rfl; (refine Ev.of rfl ?_; first | exact fun _ => ⟨⟩ | exact id | exact And.right | exact And.left | exact (·.1.2) | exact (·.1.1) | exact (·.1.1.1) | exact (·.1.1.2)); exact rfl)
    | (apply Q_loada TYok; exact rfl; exact rfl; (refine Ev.of rfl ?_; first | exact fun _ => ⟨⟩ | exact id | exact And.right | exact And.left | exact (·.1.2) | exact (·.1.1) | exact (·.1.1.1) | exact (·.1.1.2)); exact rfl; exact rfl; exact rfl)
    | (apply Q_loadma TYok; exact rfl; exact rfl; (refine Ev.of rfl ?_; first | exact fun _ => ⟨⟩ | exact id | exact And.right | exact And.left | exact (·.1.2) | exact (·.1.1) | exact (·.1.1.1) | exact (·.1.1.2)); exact rfl; (intro hg; first | omega | (simp; omega) | (simp at hg; simp; omega)); exact rfl; infer_instance)); exact rfl))
          refine Le.mkR rfl rfl ?_ ?_ ?_ rfl
          · repeat (first | exact SubR.nil | apply SubR.p rfl rfl | apply SubR.s rfl rfl rfl | apply SubR.a rfl rfl rfl)
          · repeat (first | exact SubR.nil | apply SubR.p rfl rfl | apply SubR.s rfl rfl rfl | apply SubR.a rfl rfl rfl)
          · repeat (first | exact SubBR.nil | apply SubBR.cons rfl (by first | rfl | (simp only [List.map_append, List.map_cons, List.map_nil]; rfl)))
        exact LatI.nil
      refine LatL.cons (by kernel_rfl) ?_ ?_
      · refine LatI.consE (n := 163) (E := repE fs i d) (f := [(26, vP (aB b)), (27, vS 27), (30, vP (aF x))]) (bl := [(27, ⟨46, 5, []⟩), (5, ⟨23, 4, [encB b]⟩), (7, ⟨46, 5, [encF x]⟩)]) (env := [(26, vP (aB b)), (27, vS 27), (30, vP (aF x)), (1, vP (slF fs)), (3, vI i), (4, vI d), (5, (True, .addr 5 0 0)), (7, (True, .addr 7 0 0)), (11, vB true)]) (f2 := [(26, vP (aB b)), (27, vS 27), (28, vP (slF fs)), (30, vP (aF x))]) (bl2 := [(27, ⟨46, 5, []⟩), (5, ⟨23, 4, [encB b]⟩), (7, ⟨46, 5, [encF x]⟩)]) rfl rfl rfl rfl ?_ ?_
        · repeat' (first
            | apply RG.nil
            | ((first | apply U_); (first
    | (apply Q_move; (refine Ev.of rfl ?_; first | exact fun _ => ⟨⟩ | exact id | exact And.right | exact And.left | exact (·.1.2) | exact (·.1.1) | exact (·.1.1.1) | exact (·.1.1.2)))); exact rfl))
          refine Le.mkR rfl rfl ?_ ?_ ?_ rfl
          · repeat (first | exact SubR.nil | apply SubR.p rfl rfl | apply SubR.s rfl rfl rfl | apply SubR.a rfl rfl rfl)
          · repeat (first | exact SubR.nil | apply SubR.p rfl rfl | apply SubR.s rfl rfl rfl | apply SubR.a rfl rfl rfl)
          · repeat (first | exact SubBR.nil | apply SubBR.cons rfl (by first | rfl | (simp only [List.map_append, List.map_cons, List.map_nil]; rfl)))
        refine LatI.consE (n := 163) (E := repE fs i d) (f := [(26, vP (aB b)), (27, vS 27), (30, vP (aF x))]) (bl := [(27, ⟨46, 5, []⟩), (5, ⟨23, 4, [encB b]⟩), (7, ⟨46, 5, [encF x]⟩)]) (env := [(26, vP (aB b)), (27, vS 27), (30, vP (aF x)), (1, vP (slF fs)), (3, vI i), (4, vI d), (5, (True, .addr 5 0 0)), (7, (True, .addr 7 0 0)), (11, vB true)]) (f2 := [(26, vP (aB b)), (27, vS 27), (30, vP (aF x)), (31, vS 31)]) (bl2 := [(27, ⟨46, 5, []⟩), (31, ⟨46, 5, [encF x]⟩), (5, ⟨23, 4, [encB b]⟩), (7, ⟨46, 5, [encF x]⟩)]) rfl rfl rfl rfl ?_ ?_
        · repeat' (first
            | apply RG.nil
            | (apply S_lit TYok; (repeat (first | exact EvR.nil | apply EvR.cons (by refine Ev.of rfl ?_; first | exact fun _ => ⟨⟩ | exact id | exact And.right | exact And.left | exact (·.1.2) | exact (·.1.1) | exact (·.1.1.1) | exact (·.1.1.2)))); exact rfl; exact rfl; exact rfl; exact rfl; exact rfl; exact rfl; exact rfl; exact rfl; exact rfl))
          refine Le.mkR rfl rfl ?_ ?_ ?_ rfl
          · repeat (first | exact SubR.nil | apply SubR.p rfl rfl | apply SubR.s rfl rfl rfl | apply SubR.a rfl rfl rfl)
          · repeat (first | exact SubR.nil | apply SubR.p rfl rfl | apply SubR.s rfl rfl rfl | apply SubR.a rfl rfl rfl)
          · repeat (first | exact SubBR.nil | apply SubBR.cons rfl (by first | rfl | (simp only [List.map_append, List.map_cons, List.map_nil]; rfl)))
        exact LatI.nil
      refine LatL.cons (by kernel_rfl) ?_ ?_
      · refine LatI.consE (n := 163) (E := repE fs i d) (f := [(26, vP (aB b)), (28, vP (slF fs)), (30, vP (aF x))]) (bl := [(5, ⟨23, 4, [encB b]⟩), (7, ⟨46, 5, [encF x]⟩)]) (env := [(26, vP (aB b)), (28, vP (slF fs)), (30, vP (aF x)), (1, vP (slF fs)), (3, vI i), (4, vI d), (5, (True, .addr 5 0 0)), (7, (True, .addr 7 0 0)), (11, vB true)]) (f2 := [(26, vP (aB b)), (27, vS 27), (28, vP (slF fs)), (30, vP (aF x))]) (bl2 := [(27, ⟨46, 5, []⟩), (5, ⟨23, 4, [encB b]⟩), (7, ⟨46, 5, [encF x]⟩)]) rfl rfl rfl rfl ?_ ?_
        · repeat' (first
            | apply RG.nil
            | (apply S_lit TYok; (repeat (first | exact EvR.nil | apply EvR.cons (by refine Ev.of rfl ?_; first | exact fun _ => ⟨⟩ | exact id | exact And.right | exact And.left | exact (·.1.2) | exact (·.1.1) | exact (·.1.1.1) | exact (·.1.1.2)))); exact rfl; exact rfl; exact rfl; exact rfl; exact rfl; exact rfl; exact rfl; exact rfl; exact rfl))
          refine Le.mkR rfl rfl ?_ ?_ ?_ rfl
          · repeat (first | exact SubR.nil | apply SubR.p rfl rfl | apply SubR.s rfl rfl rfl | apply SubR.a rfl rfl rfl)
          · repeat (first | exact SubR.nil | apply SubR.p rfl rfl | apply SubR.s rfl rfl rfl | apply SubR.a rfl rfl rfl)
          · repeat (first | exact SubBR.nil | apply SubBR.cons rfl (by first | rfl | (simp only [List.map_append, List.map_cons, List.map_nil]; rfl)))
        refine LatI.consE (n := 163) (E := repE fs i d) (f := [(26, vP (aB b)), (28, vP (slF fs)), (30, vP (aF x))]) (bl := [(5, ⟨23, 4, [encB b]⟩), (7, ⟨46, 5, [encF x]⟩)]) (env := [(26, vP (aB b)), (28, vP (slF fs)), (30, vP (aF x)), (1, vP (slF fs)), (3, vI i), (4, vI d), (5, (True, .addr 5 0 0)), (7, (True, .addr 7 0 0)), (11, vB true)]) (f2 := [(26, vP (aB b)), (28, vP (slF fs)), (30, vP (aF x)), (31, vS 31)]) (bl2 := [(31, ⟨46, 5, [encF x]⟩), (5, ⟨23, 4, [encB b]⟩), (7, ⟨46, 5, [encF x]⟩)]) rfl rfl rfl rfl ?_ ?_
        · repeat' (first
            | apply RG.nil
            | (apply S_lit TYok; (repeat (first | exact EvR.nil | apply EvR.cons (by refine Ev.of rfl ?_; first | exact fun _ => ⟨⟩ | exact id | exact And.right | exact And.left | exact (·.1.2) | exact (·.1.1) | exact (·.1.1.1) | exact (·.1.1.2)))); exact rfl; exact rfl; exact rfl; exact rfl; exact rfl; exact rfl; exact rfl; exact rfl; exact rfl))
          refine Le.mkR rfl rfl ?_ ?_ ?_ rfl
          · repeat (first | exact SubR.nil | apply SubR.p rfl rfl | apply SubR.s rfl rfl rfl | apply SubR.a rfl rfl rfl)
          · repeat (first | exact SubR.nil | apply SubR.p rfl rfl | apply SubR.s rfl rfl rfl | apply SubR.a rfl rfl rfl)
          · repeat (first | exact SubBR.nil | apply SubBR.cons rfl (by first | rfl | (simp only [List.map_append, List.map_cons, List.map_nil]; rfl)))
        exact LatI.nil
      refine LatL.cons (by kernel_rfl) ?_ ?_
      · refine LatI.consE (n := 163) (E := repE fs i d) (f := [(26, vP (aB b)), (30, vP (aF x)), (31, vS 31)]) (bl := [(31, ⟨46, 5, [encF x]⟩), (5, ⟨23, 4, [encB b]⟩), (7, ⟨46, 5, [encF x]⟩)]) (env := [(26, vP (aB b)), (30, vP (aF x)), (31, vS 31), (1, vP (slF fs)), (3, vI i), (4, vI d), (5, (True, .addr 5 0 0)), (7, (True, .addr 7 0 0)), (11, vB true)]) (f2 := [(26, vP (aB b)), (27, vS 27), (30, vP (aF x)), (31, vS 31)]) (bl2 := [(27, ⟨46, 5, []⟩), (31, ⟨46, 5, [encF x]⟩), (5, ⟨23, 4, [encB b]⟩), (7, ⟨46, 5, [encF x]⟩)]) rfl rfl rfl rfl ?_ ?_
        · repeat' (first
            | apply RG.nil
            | (apply S_lit TYok; (repeat (first | exact EvR.nil | apply EvR.cons (by refine Ev.of rfl ?_; first | exact fun _ => ⟨⟩ | exact id | exact And.right | exact And.left | exact (·.1.2) | exact (·.1.1) | exact (·.1.1.1) | exact (·.1.1.2)))); exact rfl; exact rfl; exact rfl; exact rfl; exact rfl; exact rfl; exact rfl; exact rfl; exact rfl))
          refine Le.mkR rfl rfl ?_ ?_ ?_ rfl
          · repeat (first | exact SubR.nil | apply SubR.p rfl rfl | apply SubR.s rfl rfl rfl | apply SubR.a rfl rfl rfl)
          · repeat (first | exact SubR.nil | apply SubR.p rfl rfl | apply SubR.s rfl rfl rfl | apply SubR.a rfl rfl rfl)
          · repeat (first | exact SubBR.nil | apply SubBR.cons rfl (by first | rfl | (simp only [List.map_append, List.map_cons, List.map_nil]; rfl)))
        refine LatI.consE (n := 163) (E := repE fs i d) (f := [(26, vP (aB b)), (30, vP (aF x)), (31, vS 31)]) (bl := [(31, ⟨46, 5, [encF x]⟩), (5, ⟨23, 4, [encB b]⟩), (7, ⟨46, 5, [encF x]⟩)]) (env := [(26, vP (aB b)), (30, vP (aF x)), (31, vS 31), (1, vP (slF fs)), (3, vI i), (4, vI d), (5, (True, .addr 5 0 0)), (7, (True, .addr 7 0 0)), (11, vB true)]) (f2 := [(26, vP (aB b)), (28, vP (slF fs)), (30, vP (aF x)), (31, vS 31)]) (bl2 := [(31, ⟨46, 5, [encF x]⟩), (5, ⟨23, 4, [encB b]⟩), (7, ⟨46, 5, [encF x]⟩)]) rfl rfl rfl rfl ?_ ?_
        · repeat' (first
            | apply RG.nil
            | ((first | apply U_); (first
    | (apply Q_move; (refine Ev.of rfl ?_; first | exact fun _ => ⟨⟩ | exact id | exact And.right | exact And.left | exact (·.1.2) | exact (·.1.1) | exact (·.1.1.1) | exact (·.1.1.2)))); exact rfl))
          refine Le.mkR rfl rfl ?_ ?_ ?_ rfl
          · repeat (first | exact SubR.nil | apply SubR.p rfl rfl | apply SubR.s rfl rfl rfl | apply SubR.a rfl rfl rfl)
          · repeat (first | exact SubR.nil | apply SubR.p rfl rfl | apply SubR.s rfl rfl rfl | apply SubR.a rfl rfl rfl)
          · repeat (first | exact SubBR.nil | apply SubBR.cons rfl (by first | rfl | (simp only [List.map_append, List.map_cons, List.map_nil]; rfl)))
        exact LatI.nil
      refine LatL.cons (by kernel_rfl) ?_ ?_
      · refine LatI.consE (n := 163) (E := repE fs i d) (f := [(28, vP (slF fs)), (29, vS 29)]) (bl := [(29, ⟨46, 5, fs.map encF⟩), (5, ⟨23, 4, [encB b]⟩), (7, ⟨46, 5, [encF x]⟩)]) (env := [(28, vP (slF fs)), (29, vS 29), (1, vP (slF fs)), (3, vI i), (4, vI d), (5, (True, .addr 5 0 0)), (7, (True, .addr 7 0 0)), (11, vB true)]) (f2 := [(26, vP (aB b)), (28, vP (slF fs)), (29, vS 29)]) (bl2 := [(29, ⟨46, 5, fs.map encF⟩), (5, ⟨23, 4, [encB b]⟩), (7, ⟨46, 5, [encF x]⟩)]) rfl rfl rfl rfl ?_ ?_
        · repeat' (first
            | apply RG.nil
            | ((first | apply U_); (first
    | (apply Q_loadp TYok; exact rfl; exact rfl; (refine Ev.of rfl ?_; first | exact fun _ => ⟨⟩ | exact id | exact And.right | exact And.left | exact (·.1.2) | exact (·.1.1) | exact (·.1.1.1) | exact (·.1.1.2)); exact rfl)
    | (apply Q_load TYok; exact rfl; exact rfl; (refine Ev.of rfl ?_; first | exact fun _ => ⟨⟩ | exact id | exact And.right | exact And.left | exact (·.1.2) | exact (·.1.1) | exact (·.1.1.1) | exact (·.1.1.2)); exact rfl; exact rfl; exact rfl)
    | (apply Q_loadm TYok; exact rfl; exact rfl; (refine Ev.of rfl ?_; first | exact fun _ => ⟨⟩ | exact id | exact And.right | exact And.left | exact (·.1.2) | exact (·.1.1) | exact (·.1.1.1) | exact (·.1.1.2)); exact rfl; (intro hg; first | omega | (simp; omega) | (simp at hg; simp; omega)); exact rfl; infer_instance)
    | (apply Q_loadpa TYok; exact rfl; exact rfl; (refine Ev.of rfl ?_; first | exact fun _ => ⟨⟩ | exact id | exact And.right | exact And.left | exact (·.1.2) | exact (·.1.1) | exact (·.1.1.1) | exact (·.1.1.2)); exact rfl)
    | (apply Q_loada TYok; exact rfl; exact rfl; (refine Ev.of rfl ?_; first | exact fun _ => ⟨⟩ | exact id | exact And.right | exact And.left | exact (·.1.2) | exact (·.1.1) | exact (·.1.1.1) | exact (·.1.1.2)); exact rfl; exact rfl; exact rfl)
    | (apply Q_loadma TYok; exact rfl; exact rfl; (refine Ev.of rfl ?_; first | exact fun _ => ⟨⟩ | exact id | exact And.right | exact And.left | exact (·.1.2) | exact (·.1.1) | exact (·.1.1.1) | exact (·.1.1.2)); exact rfl; (intro hg; first | omega | (simp; omega) | (simp at hg; simp; omega)); exact rfl; infer_instance)); exact rfl))
          refine Le.mkR rfl rfl ?_ ?_ ?_ rfl
          · repeat (first | exact SubR.nil | apply SubR.p rfl rfl | apply SubR.s rfl rfl rfl | apply SubR.a rfl rfl rfl)
          · repeat (first | exact SubR.nil | apply SubR.p rfl rfl | apply SubR.s rfl rfl rfl | apply SubR.a rfl rfl rfl)
          · repeat (first | exact SubBR.nil | apply SubBR.cons rfl (by first | rfl | (simp only [List.map_append, List.map_cons, List.map_nil]; rfl)))
        refine LatI.consE (n := 163) (E := repE fs i d) (f := [(28, vP (slF fs)), (29, vS 29)]) (bl := [(29, ⟨46, 5, fs.map encF⟩), (5, ⟨23, 4, [encB b]⟩), (7, ⟨46, 5, [encF x]⟩)]) (env := [(28, vP (slF fs)), (29, vS 29), (1, vP (slF fs)), (3, vI i), (4, vI d), (5, (True, .addr 5 0 0)), (7, (True, .addr 7 0 0)), (11, vB true)]) (f2 := [(28, vP (slF fs)), (29, vS 29), (30, vP (aF x))]) (bl2 := [(29, ⟨46, 5, fs.map encF⟩), (5, ⟨23, 4, [encB b]⟩), (7, ⟨46, 5, [encF x]⟩)]) rfl rfl rfl rfl ?_ ?_
        · repeat' (first
            | apply RG.nil
            | ((first | apply U_); (first
    | (apply Q_loadp TYok; exact rfl; exact rfl; (refine Ev.of rfl ?_; first | exact fun _ => ⟨⟩ | exact id | exact And.right | exact And.left | exact (·.1.2) | exact (·.1.1) | exact (·.1.1.1) | exact (·.1.1.2)); exact rfl)
    | (apply Q_load TYok; exact rfl; exact rfl; (refine Ev.of rfl ?_; first | exact fun _ => ⟨⟩ | exact id | exact And.right | exact And.left | exact (·.1.2) | exact (·.1.1) | exact (·.1.1.1) | exact (·.1.1.2)); exact rfl; exact rfl; exact rfl)
    | (apply Q_loadm TYok; exact rfl; exact rfl; (refine Ev.of rfl ?_; first | exact fun _ => ⟨⟩ | exact id | exact And.right | exact And.left | exact (·.1.2) | exact (·.1.1) | exact (·.1.1.1) | exact (·.1.1.2)); exact rfl; (intro hg; first | omega | (simp; omega) | (simp at hg; simp; omega)); exact rfl; infer_instance)
    | (apply Q_loadpa TYok; exact rfl; exact rfl; (refine Ev.of rfl ?_; first | exact fun _ => ⟨⟩ | exact id | exact And.right | exact And.left | exact (·.1.2) | exact (·.1.1) | exact (·.1.1.1) | exact (·.1.1.2)); exact rfl)
    | (apply Q_loada TYok; exact rfl; exact rfl; (refine Ev.of rfl ?_; first | exact fun _ => ⟨⟩ | exact id | exact And.right | exact And.left | exact (·.1.2) | exact (·.1.1) | exact (·.1.1.1) | exact (·.1.1.2)); exact rfl; exact rfl; exact rfl)
    | (apply Q_loadma TYok; exact rfl; exact rfl; (refine Ev.of rfl ?_; first | exact fun _ => ⟨⟩ | exact id | exact And.right | exact And.left | exact (·.1.2) | exact (·.1.1) | exact (·.1.1.1) | exact (·.1.1.2)); exact rfl; (intro hg; first | omega | (simp; omega) | (simp at hg; simp; omega)); exact rfl; infer_instance)); exact rfl))
          refine Le.mkR rfl rfl ?_ ?_ ?_ rfl
          · repeat (first | exact SubR.nil | apply SubR.p rfl rfl | apply SubR.s rfl rfl rfl | apply SubR.a rfl rfl rfl)
          · repeat (first | exact SubR.nil | apply SubR.p rfl rfl | apply SubR.s rfl rfl rfl | apply SubR.a rfl rfl rfl)
          · repeat (first | exact SubBR.nil | apply SubBR.cons rfl (by first | rfl | (simp only [List.map_append, List.map_cons, List.map_nil]; rfl)))
        exact LatI.nil
      refine LatL.cons (by kernel_rfl) ?_ ?_
      · refine LatI.consE (n := 163) (E := repE fs i d) (f := [(27, vS 27), (28, vP (slF fs)), (30, vP (aF x))]) (bl := [(27, ⟨46, 5, []⟩), (5, ⟨23, 4, [encB b]⟩), (7, ⟨46, 5, [encF x]⟩)]) (env := [(27, vS 27), (28, vP (slF fs)), (30, vP (aF x)), (1, vP (slF fs)), (3, vI i), (4, vI d), (5, (True, .addr 5 0 0)), (7, (True, .addr 7 0 0)), (11, vB true)]) (f2 := [(26, vP (aB b)), (27, vS 27), (28, vP (slF fs)), (30, vP (aF x))]) (bl2 := [(27, ⟨46, 5, []⟩), (5, ⟨23, 4, [encB b]⟩), (7, ⟨46, 5, [encF x]⟩)]) rfl rfl rfl rfl ?_ ?_
        · repeat' (first
            | apply RG.nil
            | ((first | apply U_); (first
    | (apply Q_loadp TYok; exact rfl; exact rfl; (refine Ev.of rfl ?_; first | exact fun _ => ⟨⟩ | exact id | exact And.right | exact And.left | exact (·.1.2) | exact (·.1.1) | exact (·.1.1.1) | exact (·.1.1.2)); exact rfl)
    | (apply Q_load TYok; exact rfl; exact rfl; (refine Ev.of rfl ?_; first | exact fun _ => ⟨⟩ | exact id | exact And.right | exact And.left | exact (·.1.2) | exact (·.1.1) | exact (·.1.1.1) | exact (·.1.1.2)); exact rfl; exact rfl; exact rfl)
    | (apply Q_loadm TYok; exact rfl; exact rfl; (refine Ev.of rfl ?_; first | exact fun _ => ⟨⟩ | exact id | exact And.right | exact And.left | exact (·.1.2) | exact (·.1.1) | exact (·.1.1.1) | exact (·.1.1.2)); exact rfl; (intro hg; first | omega | (simp; omega) | (simp at hg; simp; omega)); exact rfl; infer_instance)
    | (apply Q_loadpa TYok; exact rfl; exact rfl; (refine Ev.of rfl ?_; first | exact fun _ => ⟨⟩ | exact id | exact And.right | exact And.left | exact (·.1.2) | exact (·.1.1) | exact (·.1.1.1) | exact (·.1.1.2)); exact rfl)
    | (apply Q_loada TYok; exact rfl; exact rfl; (refine Ev.of rfl ?_; first | exact fun _ => ⟨⟩ | exact id | exact And.right | exact And.left | exact (·.1.2) | exact (·.1.1) | exact (·.1.1.1) | exact (·.1.1.2)); exact rfl; exact rfl; exact rfl)
    | (apply Q_loadma TYok; exact rfl; exact rfl; (refine Ev.of rfl ?_; first | exact fun _ => ⟨⟩ | exact id | exact And.right | exact And.left | exact (·.1.2) | exact (·.1.1) | exact (·.1.1.1) | exact (·.1.1.2)); exact rfl; (intro hg; first | omega | (simp; omega) | (simp at hg; simp; omega)); exact rfl; infer_instance)); exact rfl))
          refine Le.mkR rfl rfl ?_ ?_ ?_ rfl
          · repeat (first | exact SubR.nil | apply SubR.p rfl rfl | apply SubR.s rfl rfl rfl | apply SubR.a rfl rfl rfl)
          · repeat (first | exact SubR.nil | apply SubR.p rfl rfl | apply SubR.s rfl rfl rfl | apply SubR.a rfl rfl rfl)
          · repeat (first | exact SubBR.nil | apply SubBR.cons rfl (by first | rfl | (simp only [List.map_append, List.map_cons, List.map_nil]; rfl)))
        refine LatI.consE (n := 163) (E := repE fs i d) (f := [(27, vS 27), (28, vP (slF fs)), (30, vP (aF x))]) (bl := [(27, ⟨46, 5, []⟩), (5, ⟨23, 4, [encB b]⟩), (7, ⟨46, 5, [encF x]⟩)]) (env := [(27, vS 27), (28, vP (slF fs)), (30, vP (aF x)), (1, vP (slF fs)), (3, vI i), (4, vI d), (5, (True, .addr 5 0 0)), (7, (True, .addr 7 0 0)), (11, vB true)]) (f2 := [(28, vP (slF fs)), (29, vS 29), (30, vP (aF x))]) (bl2 := [(29, ⟨46, 5, fs.map encF⟩), (5, ⟨23, 4, [encB b]⟩), (7, ⟨46, 5, [encF x]⟩)]) rfl rfl rfl rfl ?_ ?_
        · repeat' (first
            | apply RG.nil
            | (apply S_append TYok; (refine Ev.of rfl ?_; first | exact fun _ => ⟨⟩ | exact id | exact And.right | exact And.left | exact (·.1.2) | exact (·.1.1) | exact (·.1.1.1) | exact (·.1.1.2)); (refine Ev.of rfl ?_; first | exact fun _ => ⟨⟩ | exact id | exact And.right | exact And.left | exact (·.1.2) | exact (·.1.1) | exact (·.1.1.1) | exact (·.1.1.2)); exact rfl; exact rfl; exact rfl; exact rfl; exact rfl; exact rfl; exact rfl; exact rfl; exact rfl; exact rfl; (constructor <;> simp <;> omega); exact rfl)
            | (apply S_append0 TYok; (refine Ev.of rfl ?_; first | exact fun _ => ⟨⟩ | exact id | exact And.right | exact And.left | exact (·.1.2) | exact (·.1.1) | exact (·.1.1.1) | exact (·.1.1.2)); (refine Ev.of rfl ?_; first | exact fun _ => ⟨⟩ | exact id | exact And.right | exact And.left | exact (·.1.2) | exact (·.1.1) | exact (·.1.1.1) | exact (·.1.1.2)); exact rfl; exact rfl; exact rfl; exact rfl; exact rfl; exact rfl; exact rfl; (constructor <;> simp <;> omega); exact rfl; exact rfl)
            | (apply S_appendd TYok; (refine Ev.of rfl ?_; first | exact fun _ => ⟨⟩ | exact id | exact And.right | exact And.left | exact (·.1.2) | exact (·.1.1) | exact (·.1.1.1) | exact (·.1.1.2)); (refine Ev.of rfl ?_; first | exact fun _ => ⟨⟩ | exact id | exact And.right | exact And.left | exact (·.1.2) | exact (·.1.1) | exact (·.1.1.1) | exact (·.1.1.2)); exact rfl; exact rfl; exact rfl; exact rfl; exact rfl; exact rfl; exact rfl; exact rfl; (intro r hr; obtain ⟨_, _, rfl⟩ := List.mem_map.1 hr; rfl); (constructor <;> simp <;> omega); exact rfl))
          refine Le.mkR rfl rfl ?_ ?_ ?_ rfl
          · repeat (first | exact SubR.nil | apply SubR.p rfl rfl | apply SubR.s rfl rfl rfl | apply SubR.a rfl rfl rfl)
          · repeat (first | exact SubR.nil | apply SubR.p rfl rfl | apply SubR.s rfl rfl rfl | apply SubR.a rfl rfl rfl)
          · repeat (first | exact SubBR.nil | apply SubBR.cons rfl (by first | rfl | (simp only [List.map_append, List.map_cons, List.map_nil]; rfl)))
        refine LatI.consE (n := 163) (E := repE fs i d) (f := [(27, vS 27), (28, vP (slF fs)), (30, vP (aF x))]) (bl := [(27, ⟨46, 5, []⟩), (5, ⟨23, 4, [encB b]⟩), (7, ⟨46, 5, [encF x]⟩)]) (env := [(27, vS 27), (28, vP (slF fs)), (30, vP (aF x)), (1, vP (slF fs)), (3, vI i), (4, vI d), (5, (True, .addr 5 0 0)), (7, (True, .addr 7 0 0)), (11, vB true)]) (f2 := [(27, vS 27), (28, vP (slF fs)), (30, vP (aF x)), (31, vS 31)]) (bl2 := [(27, ⟨46, 5, []⟩), (31, ⟨46, 5, [encF x]⟩), (5, ⟨23, 4, [encB b]⟩), (7, ⟨46, 5, [encF x]⟩)]) rfl rfl rfl rfl ?_ ?_
        · repeat' (first
            | apply RG.nil
            | (apply S_lit TYok; (repeat (first | exact EvR.nil | apply EvR.cons (by refine Ev.of rfl ?_; first | exact fun _ => ⟨⟩ | exact id | exact And.right | exact And.left | exact (·.1.2) | exact (·.1.1) | exact (·.1.1.1) | exact (·.1.1.2)))); exact rfl; exact rfl; exact rfl; exact rfl; exact rfl; exact rfl; exact rfl; exact rfl; exact rfl))
          refine Le.mkR rfl rfl ?_ ?_ ?_ rfl
          · repeat (first | exact SubR.nil | apply SubR.p rfl rfl | apply SubR.s rfl rfl rfl | apply SubR.a rfl rfl rfl)
          · repeat (first | exact SubR.nil | apply SubR.p rfl rfl | apply SubR.s rfl rfl rfl | apply SubR.a rfl rfl rfl)
          · repeat (first | exact SubBR.nil | apply SubBR.cons rfl (by first | rfl | (simp only [List.map_append, List.map_cons, List.map_nil]; rfl)))
        exact LatI.nil
      refine LatL.cons (by kernel_rfl) ?_ ?_
      · refine LatI.consE (n := 163) (E := repE fs i d) (f := [(27, vS 27), (30, vP (aF x)), (31, vS 31)]) (bl := [(27, ⟨46, 5, []⟩), (31, ⟨46, 5, [encF x]⟩), (5, ⟨23, 4, [encB b]⟩), (7, ⟨46, 5, [encF x]⟩)]) (env := [(27, vS 27), (30, vP (aF x)), (31, vS 31), (1, vP (slF fs)), (3, vI i), (4, vI d), (5, (True, .addr 5 0 0)), (7, (True, .addr 7 0 0)), (11, vB true)]) (f2 := [(26, vP (aB b)), (27, vS 27), (30, vP (aF x)), (31, vS 31)]) (bl2 := [(27, ⟨46, 5, []⟩), (31, ⟨46, 5, [encF x]⟩), (5, ⟨23, 4, [encB b]⟩), (7, ⟨46, 5, [encF x]⟩)]) rfl rfl rfl rfl ?_ ?_
        · repeat' (first
            | apply RG.nil
            | ((first | apply U_); (first
    | (apply Q_loadp TYok; exact rfl; exact rfl; (refine Ev.of rfl ?_; first | exact fun _ => ⟨⟩ | exact id | exact And.right | exact And.left | exact (·.1.2) | exact (·.1.1) | exact (·.1.1.1) | exact (·.1.1.2)); exact rfl)
    | (apply Q_load TYok; exact rfl; exact rfl; (refine Ev.of rfl ?_; first | exact fun _ => ⟨⟩ | exact id | exact And.right | exact And.left | exact (·.1.2) | exact (·.1.1) | exact (·.1.1.1) | exact (·.1.1.2)); exact rfl; exact rfl; exact rfl)
    | (apply Q_loadm TYok; exact rfl; exact rfl; (refine Ev.of rfl ?_; first | exact fun _ => ⟨⟩ | exact id | exact And.right | exact And.left | exact (·.1.2) | exact (·.1.1) | exact (·.1.1.1) | exact (·.1.1.2)); exact rfl; (intro hg; first | omega | (simp; omega) | (simp at hg; simp; omega)); exact rfl; infer_instance)
    | (apply Q_loadpa TYok; exact rfl; exact rfl; (refine Ev.of rfl ?_; first | exact fun _ => ⟨⟩ | exact id | exact And.right | exact And.left | exact (·.1.2) | exact (·.1.1) | exact (·.1.1.1) | exact (·.1.1.2)); exact rfl)
    | (apply Q_loada TYok; exact rfl; exact rfl; (refine Ev.of rfl ?_; first | exact fun _ => ⟨⟩ | exact id | exact And.right | exact And.left | exact (·.1.2) | exact (·.1.1) | exact (·.1.1.1) | exact (·.1.1.2)); exact rfl; exact rfl; exact rfl)
    | (apply Q_loadma TYok; exact rfl; exact rfl; (refine Ev.of rfl ?_; first | exact fun _ => ⟨⟩ | exact id | exact And.right | exact And.left | exact (·.1.2) | exact (·.1.1) | exact (·.1.1.1) | exact (·.1.1.2)); exact rfl; (intro hg; first | omega | (simp; omega) | (simp at hg; simp; omega)); exact rfl; infer_instance)); exact rfl))
          refine Le.mkR rfl rfl ?_ ?_ ?_ rfl
          · repeat (first | exact SubR.nil | apply SubR.p rfl rfl | apply SubR.s rfl rfl rfl | apply SubR.a rfl rfl rfl)
          · repeat (first | exact SubR.nil | apply SubR.p rfl rfl | apply SubR.s rfl rfl rfl | apply SubR.a rfl rfl rfl)
          · repeat (first | exact SubBR.nil | apply SubBR.cons rfl (by first | rfl | (simp only [List.map_append, List.map_cons, List.map_nil]; rfl)))
        refine LatI.consE (n := 163) (E := repE fs i d) (f := [(27, vS 27), (30, vP (aF x)), (31, vS 31)]) (bl := [(27, ⟨46, 5, []⟩), (31, ⟨46, 5, [encF x]⟩), (5, ⟨23, 4, [encB b]⟩), (7, ⟨46, 5, [encF x]⟩)]) (env := [(27, vS 27), (30, vP (aF x)), (31, vS 31), (1, vP (slF fs)), (3, vI i), (4, vI d), (5, (True, .addr 5 0 0)), (7, (True, .addr 7 0 0)), (11, vB true)]) (f2 := [(27, vS 27), (28, vP (slF fs)), (30, vP (aF x)), (31, vS 31)]) (bl2 := [(27, ⟨46, 5, []⟩), (31, ⟨46, 5, [encF x]⟩), (5, ⟨23, 4, [encB b]⟩), (7, ⟨46, 5, [encF x]⟩)]) rfl rfl rfl rfl ?_ ?_
        · repeat' (first
            | apply RG.nil
            | ((first | apply U_); (first
    | (apply Q_move; (refine Ev.of rfl ?_; first | exact fun _ => ⟨⟩ | exact id | exact And.right | exact And.left | exact (·.1.2) | exact (·.1.1) | exact (·.1.1.1) | exact (·.1.1.2)))); exact rfl))
          refine Le.mkR rfl rfl ?_ ?_ ?_ rfl
          · repeat (first | exact SubR.nil | apply SubR.p rfl rfl | apply SubR.s rfl rfl rfl | apply SubR.a rfl rfl rfl)
          · repeat (first | exact SubR.nil | apply SubR.p rfl rfl | apply SubR.s rfl rfl rfl | apply SubR.a rfl rfl rfl)
          · repeat (first | exact SubBR.nil | apply SubBR.cons rfl (by first | rfl | (simp only [List.map_append, List.map_cons, List.map_nil]; rfl)))
        exact LatI.nil
      refine LatL.cons (by kernel_rfl) ?_ ?_
      · refine LatI.consE (n := 163) (E := repE fs i d) (f := [(28, vP (slF fs)), (30, vP (aF x)), (31, vS 31)]) (bl := [(31, ⟨46, 5, [encF x]⟩), (5, ⟨23, 4, [encB b]⟩), (7, ⟨46, 5, [encF x]⟩)]) (env := [(28, vP (slF fs)), (30, vP (aF x)), (31, vS 31), (1, vP (slF fs)), (3, vI i), (4, vI d), (5, (True, .addr 5 0 0)), (7, (True, .addr 7 0 0)), (11, vB true)]) (f2 := [(26, vP (aB b)), (28, vP (slF fs)), (30, vP (aF x)), (31, vS 31)]) (bl2 := [(31, ⟨46, 5, [encF x]⟩), (5, ⟨23, 4, [encB b]⟩), (7, ⟨46, 5, [encF x]⟩)]) rfl rfl rfl rfl ?_ ?_
        · repeat' (first
            | apply RG.nil
            | ((first | apply U_); (first
    | (apply Q_loadp TYok; exact rfl; exact rfl; (refine Ev.of rfl ?_; first | exact fun _ => ⟨⟩ | exact id | exact And.right | exact And.left | exact (·.1.2) | exact (·.1.1) | exact (·.1.1.1) | exact (·.1.1.2)); exact rfl)
    | (apply Q_load TYok; exact rfl; exact rfl; (refine Ev.of rfl ?_; first | exact fun _ => ⟨⟩ | exact id | exact And.right | exact And.left | exact (·.1.2) | exact (·.1.1) | exact (·.1.1.1) | exact (·.1.1.2)); exact rfl; exact rfl; exact rfl)
    | (apply Q_loadm TYok; exact rfl; exact rfl; (refine Ev.of rfl ?_; first | exact fun _ => ⟨⟩ | exact id | exact And.right | exact And.left | exact (·.1.2) | exact (·.1.1) | exact (·.1.1.1) | exact (·.1.1.2)); exact rfl; (intro hg; first | omega | (simp; omega) | (simp at hg; simp; omega)); exact rfl; infer_instance)
    | (apply Q_loadpa TYok; exact rfl; exact rfl; (refine Ev.of rfl ?_; first | exact fun _ => ⟨⟩ | exact id | exact And.right | exact And.left | exact (·.1.2) | exact (·.1.1) | exact (·.1.1.1) | exact (·.1.1.2)); exact rfl)
    | (apply Q_loada TYok; exact rfl; exact rfl; (refine Ev.of rfl ?_; first | exact fun _ => ⟨⟩ | exact id | exact And.right | exact And.left | exact (·.1.2) | exact (·.1.1) | exact (·.1.1.1) | exact (·.1.1.2)); exact rfl; exact rfl; exact rfl)
    | (apply Q_loadma TYok; exact rfl; exact rfl; (refine Ev.of rfl ?_; first | exact fun _ => ⟨⟩ | exact id | exact And.right | exact And.left | exact (·.1.2) | exact (·.1.1) | exact (·.1.1.1) | exact (·.1.1.2)); exact rfl; (intro hg; first | omega | (simp; omega) | (simp at hg; simp; omega)); exact rfl; infer_instance)); exact rfl))
          refine Le.mkR rfl rfl ?_ ?_ ?_ rfl
          · repeat (first | exact SubR.nil | apply SubR.p rfl rfl | apply SubR.s rfl rfl rfl | apply SubR.a rfl rfl rfl)
          · repeat (first | exact SubR.nil | apply SubR.p rfl rfl | apply SubR.s rfl rfl rfl | apply SubR.a rfl rfl rfl)
          · repeat (first | exact SubBR.nil | apply SubBR.cons rfl (by first | rfl | (simp only [List.map_append, List.map_cons, List.map_nil]; rfl)))
        refine LatI.consE (n := 163) (E := repE fs i d) (f := [(28, vP (slF fs)), (30, vP (aF x)), (31, vS 31)]) (bl := [(31, ⟨46, 5, [encF x]⟩), (5, ⟨23, 4, [encB b]⟩), (7, ⟨46, 5, [encF x]⟩)]) (env := [(28, vP (slF fs)), (30, vP (aF x)), (31, vS 31), (1, vP (slF fs)), (3, vI i), (4, vI d), (5, (True, .addr 5 0 0)), (7, (True, .addr 7 0 0)), (11, vB true)]) (f2 := [(27, vS 27), (28, vP (slF fs)), (30, vP (aF x)), (31, vS 31)]) (bl2 := [(27, ⟨46, 5, []⟩), (31, ⟨46, 5, [encF x]⟩), (5, ⟨23, 4, [encB b]⟩), (7, ⟨46, 5, [encF x]⟩)]) rfl rfl rfl rfl ?_ ?_
        · repeat' (first
            | apply RG.nil
            | (apply S_lit TYok; (repeat (first | exact EvR.nil | apply EvR.cons (by refine Ev.of rfl ?_; first | exact fun _ => ⟨⟩ | exact id | exact And.right | exact And.left | exact (·.1.2) | exact (·.1.1) | exact (·.1.1.1) | exact (·.1.1.2)))); exact rfl; exact rfl; exact rfl; exact rfl; exact rfl; exact rfl; exact rfl; exact rfl; exact rfl))
          refine Le.mkR rfl rfl ?_ ?_ ?_ rfl
          · repeat (first | exact SubR.nil | apply SubR.p rfl rfl | apply SubR.s rfl rfl rfl | apply SubR.a rfl rfl rfl)
          · repeat (first | exact SubR.nil | apply SubR.p rfl rfl | apply SubR.s rfl rfl rfl | apply SubR.a rfl rfl rfl)
          · repeat (first | exact SubBR.nil | apply SubBR.cons rfl (by first | rfl | (simp only [List.map_append, List.map_cons, List.map_nil]; rfl)))
        exact LatI.nil
      refine LatL.cons (by kernel_rfl) ?_ ?_
      · refine LatI.consE (n := 163) (E := repE fs i d) (f := [(26, vP (aB b)), (28, vP (slF fs)), (29, vS 29)]) (bl := [(29, ⟨46, 5, fs.map encF⟩), (5, ⟨23, 4, [encB b]⟩), (7, ⟨46, 5, [encF x]⟩)]) (env := [(26, vP (aB b)), (28, vP (slF fs)), (29, vS 29), (1, vP (slF fs)), (3, vI i), (4, vI d), (5, (True, .addr 5 0 0)), (7, (True, .addr 7 0 0)), (11, vB true)]) (f2 := [(26, vP (aB b)), (28, vP (slF fs)), (29, vS 29), (30, vP (aF x))]) (bl2 := [(29, ⟨46, 5, fs.map encF⟩), (5, ⟨23, 4, [encB b]⟩), (7, ⟨46, 5, [encF x]⟩)]) rfl rfl rfl rfl ?_ ?_
        · repeat' (first
            | apply RG.nil
            | ((first | apply U_); (first
    | (apply Q_loadp TYok; exact rfl; exact rfl; (refine Ev.of rfl ?_; first | exact fun _ => ⟨⟩ | exact id | exact And.right | exact And.left | exact (·.1.2) | exact (·.1.1) | exact (·.1.1.1) | exact (·.1.1.2)); exact rfl)
    | (apply Q_load TYok; exact rfl; exact rfl; (refine Ev.of rfl ?_; first | exact fun _ => ⟨⟩ | exact id | exact And.right | exact And.left | exact (·.1.2) | exact (·.1.1) | exact (·.1.1.1) | exact (·.1.1.2)); exact rfl; exact rfl; exact rfl)
    | (apply Q_loadm TYok; exact rfl; exact rfl; (refine Ev.of rfl ?_; first | exact fun _ => ⟨⟩ | exact id | exact And.right | exact And.left | exact (·.1.2) | exact (·.1.1) | exact (·.1.1.1) | exact (·.1.1.2)); exact rfl; (intro hg; first | omega | (simp; omega) | (simp at hg; simp; omega)); exact rfl; infer_instance)
    | (apply Q_loadpa TYok; exact rfl; exact rfl; (refine Ev.of rfl ?_; first | exact fun _ => ⟨⟩ | exact id | exact And.right | exact And.left | exact (·.1.2) | exact (·.1.1) | exact (·.1.1.1) | exact (·.1.1.2)); exact rfl)
    | (apply Q_loada TYok; exact rfl; exact rfl; (refine Ev.of rfl ?_; first | exact fun _ => ⟨⟩ | exact id | exact And.right | exact And.left | exact (·.1.2) | exact (·.1.1) | exact (·.1.1.1) | exact (·.1.1.2)); exact rfl; exact rfl; exact rfl)
    | (apply Q_loadma TYok; exact rfl; exact rfl; (refine Ev.of rfl ?_; first | exact fun _ => ⟨⟩ | exact id | exact And.right | exact And.left | exact (·.1.2) | exact (·.1.1) | exact (·.1.1.1) | exact (·.1.1.2)); exact rfl; (intro hg; first | omega | (simp; omega) | (simp at hg; simp; omega)); exact rfl; infer_instance)); exact rfl))
          refine Le.mkR rfl rfl ?_ ?_ ?_ rfl
          · repeat (first | exact SubR.nil | apply SubR.p rfl rfl | apply SubR.s rfl rfl rfl | apply SubR.a rfl rfl rfl)
          · repeat (first | exact SubR.nil | apply SubR.p rfl rfl | apply SubR.s rfl rfl rfl | apply SubR.a rfl rfl rfl)
          · repeat (first | exact SubBR.nil | apply SubBR.cons rfl (by first | rfl | (simp only [List.map_append, List.map_cons, List.map_nil]; rfl)))
        exact LatI.nil
      refine LatL.cons (by kernel_rfl) ?_ ?_
      · refine LatI.consE (n := 163) (E := repE fs i d) (f := [(26, vP (aB b)), (27, vS 27), (28, vP (slF fs)), (30, vP (aF x))]) (bl := [(27, ⟨46, 5, []⟩), (5, ⟨23, 4, [encB b]⟩), (7, ⟨46, 5, [encF x]⟩)]) (env := [(26, vP (aB b)), (27, vS 27), (28, vP (slF fs)), (30, vP (aF x)), (1, vP (slF fs)), (3, vI i), (4, vI d), (5, (True, .addr 5 0 0)), (7, (True, .addr 7 0 0)), (11, vB true)]) (f2 := [(26, vP (aB b)), (28, vP (slF fs)), (29, vS 29), (30, vP (aF x))]) (bl2 := [(29, ⟨46, 5, fs.map encF⟩), (5, ⟨23, 4, [encB b]⟩), (7, ⟨46, 5, [encF x]⟩)]) rfl rfl rfl rfl ?_ ?_
        · repeat' (first
            | apply RG.nil
            | (apply S_append TYok; (refine Ev.of rfl ?_; first | exact fun _ => ⟨⟩ | exact id | exact And.right | exact And.left | exact (·.1.2) | exact (·.1.1) | exact (·.1.1.1) | exact (·.1.1.2)); (refine Ev.of rfl ?_; first | exact fun _ => ⟨⟩ | exact id | exact And.right | exact And.left | exact (·.1.2) | exact (·.1.1) | exact (·.1.1.1) | exact (·.1.1.2)); exact rfl; exact rfl; exact rfl; exact rfl; exact rfl; exact rfl; exact rfl; exact rfl; exact rfl; exact rfl; (constructor <;> simp <;> omega); exact rfl)
            | (apply S_append0 TYok; (refine Ev.of rfl ?_; first | exact fun _ => ⟨⟩ | exact id | exact And.right | exact And.left | exact (·.1.2) | exact (·.1.1) | exact (·.1.1.1) | exact (·.1.1.2)); (refine Ev.of rfl ?_; first | exact fun _ => ⟨⟩ | exact id | exact And.right | exact And.left | exact (·.1.2) | exact (·.1.1) | exact (·.1.1.1) | exact (·.1.1.2)); exact rfl; exact rfl; exact rfl; exact rfl; exact rfl; exact rfl; exact rfl; (constructor <;> simp <;> omega); exact rfl; exact rfl)
            | (apply S_appendd TYok; (refine Ev.of rfl ?_; first | exact fun _ => ⟨⟩ | exact id | exact And.right | exact And.left | exact (·.1.2) | exact (·.1.1) | exact (·.1.1.1) | exact (·.1.1.2)); (refine Ev.of rfl ?_; first | exact fun _ => ⟨⟩ | exact id | exact And.right | exact And.left | exact (·.1.2) | exact (·.1.1) | exact (·.1.1.1) | exact (·.1.1.2)); exact rfl; exact rfl; exact rfl; exact rfl; exact rfl; exact rfl; exact rfl; exact rfl; (intro r hr; obtain ⟨_, _, rfl⟩ := List.mem_map.1 hr; rfl); (constructor <;> simp <;> omega); exact rfl))
          refine Le.mkR rfl rfl ?_ ?_ ?_ rfl
          · repeat (first | exact SubR.nil | apply SubR.p rfl rfl | apply SubR.s rfl rfl rfl | apply SubR.a rfl rfl rfl)
          · repeat (first | exact SubR.nil | apply SubR.p rfl rfl | apply SubR.s rfl rfl rfl | apply SubR.a rfl rfl rfl)
          · repeat (first | exact SubBR.nil | apply SubBR.cons rfl (by first | rfl | (simp only [List.map_append, List.map_cons, List.map_nil]; rfl)))
        refine LatI.consE (n := 163) (E := repE fs i d) (f := [(26, vP (aB b)), (27, vS 27), (28, vP (slF fs)), (30, vP (aF x))]) (bl := [(27, ⟨46, 5, []⟩), (5, ⟨23, 4, [encB b]⟩), (7, ⟨46, 5, [encF x]⟩)]) (env := [(26, vP (aB b)), (27, vS 27), (28, vP (slF fs)), (30, vP (aF x)), (1, vP (slF fs)), (3, vI i), (4, vI d), (5, (True, .addr 5 0 0)), (7, (True, .addr 7 0 0)), (11, vB true)]) (f2 := [(26, vP (aB b)), (27, vS 27), (28, vP (slF fs)), (30, vP (aF x)), (31, vS 31)]) (bl2 := [(27, ⟨46, 5, []⟩), (31, ⟨46, 5, [encF x]⟩), (5, ⟨23, 4, [encB b]⟩), (7, ⟨46, 5, [encF x]⟩)]) rfl rfl rfl rfl ?_ ?_
        · repeat' (first
            | apply RG.nil
            | (apply S_lit TYok; (repeat (first | exact EvR.nil | apply EvR.cons (by refine Ev.of rfl ?_; first | exact fun _ => ⟨⟩ | exact id | exact And.right | exact And.left | exact (·.1.2) | exact (·.1.1) | exact (·.1.1.1) | exact (·.1.1.2)))); exact rfl; exact rfl; exact rfl; exact rfl; exact rfl; exact rfl; exact rfl; exact rfl; exact rfl))
          refine Le.mkR rfl rfl ?_ ?_ ?_ rfl
          · repeat (first | exact SubR.nil | apply SubR.p rfl rfl | apply SubR.s rfl rfl rfl | apply SubR.a rfl rfl rfl)
          · repeat (first | exact SubR.nil | apply SubR.p rfl rfl | apply SubR.s rfl rfl rfl | apply SubR.a rfl rfl rfl)
          · repeat (first | exact SubBR.nil | apply SubBR.cons rfl (by first | rfl | (simp only [List.map_append, List.map_cons, List.map_nil]; rfl)))
        exact LatI.nil
      refine LatL.cons (by kernel_rfl) ?_ ?_
      · refine LatI.consE (n := 163) (E := repE fs i d) (f := [(26, vP (aB b)), (27, vS 27), (30, vP (aF x)), (31, vS 31)]) (bl := [(27, ⟨46, 5, []⟩), (31, ⟨46, 5, [encF x]⟩), (5, ⟨23, 4, [encB b]⟩), (7, ⟨46, 5, [encF x]⟩)]) (env := [(26, vP (aB b)), (27, vS 27), (30, vP (aF x)), (31, vS 31), (1, vP (slF fs)), (3, vI i), (4, vI d), (5, (True, .addr 5 0 0)), (7, (True, .addr 7 0 0)), (11, vB true)]) (f2 := [(26, vP (aB b)), (27, vS 27), (28, vP (slF fs)), (30, vP (aF x)), (31, vS 31)]) (bl2 := [(27, ⟨46, 5, []⟩), (31, ⟨46, 5, [encF x]⟩), (5, ⟨23, 4, [encB b]⟩), (7, ⟨46, 5, [encF x]⟩)]) rfl rfl rfl rfl ?_ ?_
        · repeat' (first
            | apply RG.nil
            | ((first | apply U_); (first
    | (apply Q_move; (refine Ev.of rfl ?_; first | exact fun _ => ⟨⟩ | exact id | exact And.right | exact And.left | exact (·.1.2) | exact (·.1.1) | exact (·.1.1.1) | exact (·.1.1.2)))); exact rfl))
          refine Le.mkR rfl rfl ?_ ?_ ?_ rfl
          · repeat (first | exact SubR.nil | apply SubR.p rfl rfl | apply SubR.s rfl rfl rfl | apply SubR.a rfl rfl rfl)
          · repeat (first | exact SubR.nil | apply SubR.p rfl rfl | apply SubR.s rfl rfl rfl | apply SubR.a rfl rfl rfl)
          · repeat (first | exact SubBR.nil | apply SubBR.cons rfl (by first | rfl | (simp only [List.map_append, List.map_cons, List.map_nil]; rfl)))
        exact LatI.nil
      refine LatL.cons (by kernel_rfl) ?_ ?_
      · refine LatI.consE (n := 163) (E := repE fs i d) (f := [(26, vP (aB b)), (28, vP (slF fs)), (30, vP (aF x)), (31, vS 31)]) (bl := [(31, ⟨46, 5, [encF x]⟩), (5, ⟨23, 4, [encB b]⟩), (7, ⟨46, 5, [encF x]⟩)]) (env := [(26, vP (aB b)), (28, vP (slF fs)), (30, vP (aF x)), (31, vS 31), (1, vP (slF fs)), (3, vI i), (4, vI d), (5, (True, .addr 5 0 0)), (7, (True, .addr 7 0 0)), (11, vB true)]) (f2 := [(26, vP (aB b)), (27, vS 27), (28, vP (slF fs)), (30, vP (aF x)), (31, vS 31)]) (bl2 := [(27, ⟨46, 5, []⟩), (31, ⟨46, 5, [encF x]⟩), (5, ⟨23, 4, [encB b]⟩), (7, ⟨46, 5, [encF x]⟩)]) rfl rfl rfl rfl ?_ ?_
        · repeat' (first
            | apply RG.nil
            | (apply S_lit TYok; (repeat (first | exact EvR.nil | apply EvR.cons (by refine Ev.of rfl ?_; first | exact fun _ => ⟨⟩ | exact id | exact And.right | exact And.left | exact (·.1.2) | exact (·.1.1) | exact (·.1.1.1) | exact (·.1.1.2)))); exact rfl; exact rfl; exact rfl; exact rfl; exact rfl; exact rfl; exact rfl; exact rfl; exact rfl))
          refine Le.mkR rfl rfl ?_ ?_ ?_ rfl
          · repeat (first | exact SubR.nil | apply SubR.p rfl rfl | apply SubR.s rfl rfl rfl | apply SubR.a rfl rfl rfl)
          · repeat (first | exact SubR.nil | apply SubR.p rfl rfl | apply SubR.s rfl rfl rfl | apply SubR.a rfl rfl rfl)
          · repeat (first | exact SubBR.nil | apply SubBR.cons rfl (by first | rfl | (simp only [List.map_append, List.map_cons, List.map_nil]; rfl)))
        exact LatI.nil
      refine LatL.cons (by kernel_rfl) ?_ ?_
      · refine LatI.consE (n := 163) (E := repE fs i d) (f := [(28, vP (slF fs)), (29, vS 29), (30, vP (aF x))]) (bl := [(29, ⟨46, 5, fs.map encF⟩), (5, ⟨23, 4, [encB b]⟩), (7, ⟨46, 5, [encF x]⟩)]) (env := [(28, vP (slF fs)), (29, vS 29), (30, vP (aF x)), (1, vP (slF fs)), (3, vI i), (4, vI d), (5, (True, .addr 5 0 0)), (7, (True, .addr 7 0 0)), (11, vB true)]) (f2 := [(26, vP (aB b)), (28, vP (slF fs)), (29, vS 29), (30, vP (aF x))]) (bl2 := [(29, ⟨46, 5, fs.map encF⟩), (5, ⟨23, 4, [encB b]⟩), (7, ⟨46, 5, [encF x]⟩)]) rfl rfl rfl rfl ?_ ?_
        · repeat' (first
            | apply RG.nil
            | ((first | apply U_); (first
    | (apply Q_loadp TYok; exact rfl; exact rfl; (refine Ev.of rfl ?_; first | exact fun _ => ⟨⟩ | exact id | exact And.right | exact And.left | exact (·.1.2) | exact (·.1.1) | exact (·.1.1.1) | exact (·.1.1.2)); exact rfl)
    | (apply Q_load TYok; exact rfl; exact rfl; (refine Ev.of rfl ?_; first | exact fun _ => ⟨⟩ | exact id | exact And.right | exact And.left | exact (·.1.2) | exact (·.1.1) | exact (·.1.1.1) | exact (·.1.1.2)); exact rfl; exact rfl; exact rfl)
    | (apply Q_loadm TYok; exact rfl; exact rfl; (refine Ev.of rfl ?_; first | exact fun _ => ⟨⟩ | exact id | exact And.right | exact And.left | exact (·.1.2) | exact (·.1.1) | exact (·.1.1.1) | exact (·.1.1.2)); exact rfl; (intro hg; first | omega | (simp; omega) | (simp at hg; simp; omega)); exact rfl; infer_instance)
    | (apply Q_loadpa TYok; exact rfl; exact rfl; (refine Ev.of rfl ?_; first | exact fun _ => ⟨⟩ | exact id | exact And.right | exact And.left | exact (·.1.2) | exact (·.1.1) | exact (·.1.1.1) | exact (·.1.1.2)); exact rfl)
    | (apply Q_loada TYok; exact rfl; exact rfl; (refine Ev.of rfl ?_; first | exact fun _ => ⟨⟩ | exact id | exact And.right | exact And.left | exact (·.1.2) | exact (·.1.1) | exact (·.1.1.1) | exact (·.1.1.2)); exact rfl; exact rfl; exact rfl)
    | (apply Q_loadma TYok; exact rfl; exact rfl; (refine Ev.of rfl ?_; first | exact fun _ => ⟨⟩ | exact id | exact And.right | exact And.left | exact (·.1.2) | exact (·.1.1) | exact (·.1.1.1) | exact (·.1.1.2)); exact rfl; (intro hg; first | omega | (simp; omega) | (simp at hg; simp; omega)); exact rfl; infer_instance)); exact rfl))
          refine Le.mkR rfl rfl ?_ ?_ ?_ rfl
          · repeat (first | exact SubR.nil | apply SubR.p rfl rfl | apply SubR.s rfl rfl rfl | apply SubR.a rfl rfl rfl)
          · repeat (first | exact SubR.nil | apply SubR.p rfl rfl | apply SubR.s rfl rfl rfl | apply SubR.a rfl rfl rfl)
          · repeat (first | exact SubBR.nil | apply SubBR.cons rfl (by first | rfl | (simp only [List.map_append, List.map_cons, List.map_nil]; rfl)))
        refine LatI.consE (n := 163) (E := repE fs i d) (f := [(28, vP (slF fs)), (29, vS 29), (30, vP (aF x))]) (bl := [(29, ⟨46, 5, fs.map encF⟩), (5, ⟨23, 4, [encB b]⟩), (7, ⟨46, 5, [encF x]⟩)]) (env := [(28, vP (slF fs)), (29, vS 29), (30, vP (aF x)), (1, vP (slF fs)), (3, vI i), (4, vI d), (5, (True, .addr 5 0 0)), (7, (True, .addr 7 0 0)), (11, vB true)]) (f2 := [(28, vP (slF fs)), (29, vS 29), (30, vP (aF x)), (31, vS 31)]) (bl2 := [(29, ⟨46, 5, fs.map encF⟩), (31, ⟨46, 5, [encF x]⟩), (5, ⟨23, 4, [encB b]⟩), (7, ⟨46, 5, [encF x]⟩)]) rfl rfl rfl rfl ?_ ?_
        · repeat' (first
            | apply RG.nil
            | (apply S_lit TYok; (repeat (first | exact EvR.nil | apply EvR.cons (by refine Ev.of rfl ?_; first | exact fun _ => ⟨⟩ | exact id | exact And.right | exact And.left | exact (·.1.2) | exact (·.1.1) | exact (·.1.1.1) | exact (·.1.1.2)))); exact rfl; exact rfl; exact rfl; exact rfl; exact rfl; exact rfl; exact rfl; exact rfl; exact rfl))
          refine Le.mkR rfl rfl ?_ ?_ ?_ rfl
          · repeat (first | exact SubR.nil | apply SubR.p rfl rfl | apply SubR.s rfl rfl rfl | apply SubR.a rfl rfl rfl)
          · repeat (first | exact SubR.nil | apply SubR.p rfl rfl | apply SubR.s rfl rfl rfl | apply SubR.a rfl rfl rfl)
          · repeat (first | exact SubBR.nil | apply SubBR.cons rfl (by first | rfl | (simp only [List.map_append, List.map_cons, List.map_nil]; rfl)))
        exact LatI.nil
      refine LatL.cons (by kernel_rfl) ?_ ?_
      · refine LatI.consE (n := 163) (E := repE fs i d) (f := [(27, vS 27), (28, vP (slF fs)), (30, vP (aF x)), (31, vS 31)]) (bl := [(27, ⟨46, 5, []⟩), (31, ⟨46, 5, [encF x]⟩), (5, ⟨23, 4, [encB b]⟩), (7, ⟨46, 5, [encF x]⟩)]) (env := [(27, vS 27), (28, vP (slF fs)), (30, vP (aF x)), (31, vS 31), (1, vP (slF fs)), (3, vI i), (4, vI d), (5, (True, .addr 5 0 0)), (7, (True, .addr 7 0 0)), (11, vB true)]) (f2 := [(26, vP (aB b)), (27, vS 27), (28, vP (slF fs)), (30, vP (aF x)), (31, vS 31)]) (bl2 := [(27, ⟨46, 5, []⟩), (31, ⟨46, 5, [encF x]⟩), (5, ⟨23, 4, [encB b]⟩), (7, ⟨46, 5, [encF x]⟩)]) rfl rfl rfl rfl ?_ ?_
        · repeat' (first
            | apply RG.nil
            | ((first | apply U_); (first
    | (apply Q_loadp TYok; exact rfl; exact rfl; (refine Ev.of rfl ?_; first | exact fun _ => ⟨⟩ | exact id | exact And.right | exact And.left | exact (·.1.2) | exact (·.1.1) | exact (·.1.1.1) | exact (·.1.1.2)); exact rfl)
    | (apply Q_load TYok; exact rfl; exact rfl; (refine Ev.of rfl ?_; first | exact fun _ => ⟨⟩ | exact id | exact And.right | exact And.left | exact (·.1.2) | exact (·.1.1) | exact (·.1.1.1) | exact (·.1.1.2)); exact rfl; exact rfl; exact rfl)
    | (apply Q_loadm TYok; exact rfl; exact rfl; (refine Ev.of rfl ?_; first | exact fun _ => ⟨⟩ | exact id | exact And.right | exact And.left | exact (·.1.2) | exact (·.1.1) | exact (·.1.1.1) | exact (·.1.1.2)); exact rfl; (intro hg; first | omega | (simp; omega) | (simp at hg; simp; omega)); exact rfl; infer_instance)
    | (apply Q_loadpa TYok; exact rfl; exact rfl; (refine Ev.of rfl ?_; first | exact fun _ => ⟨⟩ | exact id | exact And.right | exact And.left | exact (·.1.2) | exact (·.1.1) | exact (·.1.1.1) | exact (·.1.1.2)); exact rfl)
    | (apply Q_loada TYok; exact rfl; exact rfl; (refine Ev.of rfl ?_; first | exact fun _ => ⟨⟩ | exact id | exact And.right | exact And.left | exact (·.1.2) | exact (·.1.1) | exact (·.1.1.1) | exact (·.1.1.2)); exact rfl; exact rfl; exact rfl)
    | (apply Q_loadma TYok; exact rfl; exact rfl; (refine Ev.of rfl ?_; first | exact fun _ => ⟨⟩ | exact id | exact And.right | exact And.left | exact (·.1.2) | exact (·.1.1) | exact (·.1.1.1) | exact (·.1.1.2)); exact rfl; (intro hg; first | omega | (simp; omega) | (simp at hg; simp; omega)); exact rfl; infer_instance)); exact rfl))
          refine Le.mkR rfl rfl ?_ ?_ ?_ rfl
          · repeat (first | exact SubR.nil | apply SubR.p rfl rfl | apply SubR.s rfl rfl rfl | apply SubR.a rfl rfl rfl)
          · repeat (first | exact SubR.nil | apply SubR.p rfl rfl | apply SubR.s rfl rfl rfl | apply SubR.a rfl rfl rfl)
          · repeat (first | exact SubBR.nil | apply SubBR.cons rfl (by first | rfl | (simp only [List.map_append, List.map_cons, List.map_nil]; rfl)))
        refine LatI.consE (n := 163) (E := repE fs i d) (f := [(27, vS 27), (28, vP (slF fs)), (30, vP (aF x)), (31, vS 31)]) (bl := [(27, ⟨46, 5, []⟩), (31, ⟨46, 5, [encF x]⟩), (5, ⟨23, 4, [encB b]⟩), (7, ⟨46, 5, [encF x]⟩)]) (env := [(27, vS 27), (28, vP (slF fs)), (30, vP (aF x)), (31, vS 31), (1, vP (slF fs)), (3, vI i), (4, vI d), (5, (True, .addr 5 0 0)), (7, (True, .addr 7 0 0)), (11, vB true)]) (f2 := [(28, vP (slF fs)), (29, vS 29), (30, vP (aF x)), (31, vS 31)]) (bl2 := [(29, ⟨46, 5, fs.map encF⟩), (31, ⟨46, 5, [encF x]⟩), (5, ⟨23, 4, [encB b]⟩), (7, ⟨46, 5, [encF x]⟩)]) rfl rfl rfl rfl ?_ ?_
        · repeat' (first
            | apply RG.nil
            | (apply S_append TYok; (refine Ev.of rfl ?_; first | exact fun _ => ⟨⟩ | exact id | exact And.right | exact And.left | exact (·.1.2) | exact (·.1.1) | exact (·.1.1.1) | exact (·.1.1.2)); (refine Ev.of rfl ?_; first | exact fun _ => ⟨⟩ | exact id | exact And.right | exact And.left | exact (·.1.2) | exact (·.1.1) | exact (·.1.1.1) | exact (·.1.1.2)); exact rfl; exact rfl; exact rfl; exact rfl; exact rfl; exact rfl; exact rfl; exact rfl; exact rfl; exact rfl; (constructor <;> simp <;> omega); exact rfl)
            | (apply S_append0 TYok; (refine Ev.of rfl ?_; first | exact fun _ => ⟨⟩ | exact id | exact And.right | exact And.left | exact (·.1.2) | exact (·.1.1) | exact (·.1.1.1) | exact (·.1.1.2)); (refine Ev.of rfl ?_; first | exact fun _ => ⟨⟩ | exact id | exact And.right | exact And.left | exact (·.1.2) | exact (·.1.1) | exact (·.1.1.1) | exact (·.1.1.2)); exact rfl; exact rfl; exact rfl; exact rfl; exact rfl; exact rfl; exact rfl; (constructor <;> simp <;> omega); exact rfl; exact rfl)
            | (apply S_appendd TYok; (refine Ev.of rfl ?_; first | exact fun _ => ⟨⟩ | exact id | exact And.right | exact And.left | exact (·.1.2) | exact (·.1.1) | exact (·.1.1.1) | exact (·.1.1.2)); (refine Ev.of rfl ?_; first | exact fun _ => ⟨⟩ | exact id | exact And.right | exact And.left | exact (·.1.2) | exact (·.1.1) | exact (·.1.1.1) | exact (·.1.1.2)); exact rfl; exact rfl; exact rfl; exact rfl; exact rfl; exact rfl; exact rfl; exact rfl; (intro r hr; obtain ⟨_, _, rfl⟩ := List.mem_map.1 hr; rfl); (constructor <;> simp <;> omega); exact rfl))
          refine Le.mkR rfl rfl ?_ ?_ ?_ rfl
          · repeat (first | exact SubR.nil | apply SubR.p rfl rfl | apply SubR.s rfl rfl rfl | apply SubR.a rfl rfl rfl)
          · repeat (first | exact SubR.nil | apply SubR.p rfl rfl | apply SubR.s rfl rfl rfl | apply SubR.a rfl rfl rfl)
          · repeat (first | exact SubBR.nil | apply SubBR.cons rfl (by first | rfl | (simp only [List.map_append, List.map_cons, List.map_nil]; rfl)))
        exact LatI.nil
      refine LatL.cons (by kernel_rfl) ?_ ?_
      · refine LatI.consE (n := 163) (E := repE fs i d) (f := [(26, vP (aB b)), (28, vP (slF fs)), (29, vS 29), (30, vP (aF x))]) (bl := [(29, ⟨46, 5, fs.map encF⟩), (5, ⟨23, 4, [encB b]⟩), (7, ⟨46, 5, [encF x]⟩)]) (env := [(26, vP (aB b)), (28, vP (slF fs)), (29, vS 29), (30, vP (aF x)), (1, vP (slF fs)), (3, vI i), (4, vI d), (5, (True, .addr 5 0 0)), (7, (True, .addr 7 0 0)), (11, vB true)]) (f2 := [(26, vP (aB b)), (28, vP (slF fs)), (29, vS 29), (30, vP (aF x)), (31, vS 31)]) (bl2 := [(29, ⟨46, 5, fs.map encF⟩), (31, ⟨46, 5, [encF x]⟩), (5, ⟨23, 4, [encB b]⟩), (7, ⟨46, 5, [encF x]⟩)]) rfl rfl rfl rfl ?_ ?_
        · repeat' (first
            | apply RG.nil
            | (apply S_lit TYok; (repeat (first | exact EvR.nil | apply EvR.cons (by refine Ev.of rfl ?_; first | exact fun _ => ⟨⟩ | exact id | exact And.right | exact And.left | exact (·.1.2) | exact (·.1.1) | exact (·.1.1.1) | exact (·.1.1.2)))); exact rfl; exact rfl; exact rfl; exact rfl; exact rfl; exact rfl; exact rfl; exact rfl; exact rfl))
          refine Le.mkR rfl rfl ?_ ?_ ?_ rfl
          · repeat (first | exact SubR.nil | apply SubR.p rfl rfl | apply SubR.s rfl rfl rfl | apply SubR.a rfl rfl rfl)
          · repeat (first | exact SubR.nil | apply SubR.p rfl rfl | apply SubR.s rfl rfl rfl | apply SubR.a rfl rfl rfl)
          · repeat (first | exact SubBR.nil | apply SubBR.cons rfl (by first | rfl | (simp only [List.map_append, List.map_cons, List.map_nil]; rfl)))
        exact LatI.nil
      refine LatL.cons (by kernel_rfl) ?_ ?_
      · refine LatI.consE (n := 163) (E := repE fs i d) (f := [(26, vP (aB b)), (27, vS 27), (28, vP (slF fs)), (30, vP (aF x)), (31, vS 31)]) (bl := [(27, ⟨46, 5, []⟩), (31, ⟨46, 5, [encF x]⟩), (5, ⟨23, 4, [encB b]⟩), (7, ⟨46, 5, [encF x]⟩)]) (env := [(26, vP (aB b)), (27, vS 27), (28, vP (slF fs)), (30, vP (aF x)), (31, vS 31), (1, vP (slF fs)), (3, vI i), (4, vI d), (5, (True, .addr 5 0 0)), (7, (True, .addr 7 0 0)), (11, vB true)]) (f2 := [(26, vP (aB b)), (28, vP (slF fs)), (29, vS 29), (30, vP (aF x)), (31, vS 31)]) (bl2 := [(29, ⟨46, 5, fs.map encF⟩), (31, ⟨46, 5, [encF x]⟩), (5, ⟨23, 4, [encB b]⟩), (7, ⟨46, 5, [encF x]⟩)]) rfl rfl rfl rfl ?_ ?_
        · repeat' (first
            | apply RG.nil
            | (apply S_append TYok; (refine Ev.of rfl ?_; first | exact fun _ => ⟨⟩ | exact id | exact And.right | exact And.left | exact (·.1.2) | exact (·.1.1) | exact (·.1.1.1) | exact (·.1.1.2)); (refine Ev.of rfl ?_; first | exact fun _ => ⟨⟩ | exact id | exact And.right | exact And.left | exact (·.1.2) | exact (·.1.1) | exact (·.1.1.1) | exact (·.1.1.2)); exact rfl; exact rfl; exact rfl; exact rfl; exact rfl; exact rfl; exact rfl; exact rfl; exact rfl; exact rfl; (constructor <;> simp <;> omega); exact rfl)
            | (apply S_append0 TYok; (refine Ev.of rfl ?_; first | exact fun _ => ⟨⟩ | exact id | exact And.right | exact And.left | exact (·.1.2) | exact (·.1.1) | exact (·.1.1.1) | exact (·.1.1.2)); (refine Ev.of rfl ?_; first | exact fun _ => ⟨⟩ | exact id | exact And.right | exact And.left | exact (·.1.2) | exact (·.1.1) | exact (·.1.1.1) | exact (·.1.1.2)); exact rfl; exact rfl; exact rfl; exact rfl; exact rfl; exact rfl; exact rfl; (constructor <;> simp <;> omega); exact rfl; exact rfl)
            | (apply S_appendd TYok; (refine Ev.of rfl ?_; first | exact fun _ => ⟨⟩ | exact id | exact And.right | exact And.left | exact (·.1.2) | exact (·.1.1) | exact (·.1.1.1) | exact (·.1.1.2)); (refine Ev.of rfl ?_; first | exact fun _ => ⟨⟩ | exact id | exact And.right | exact And.left | exact (·.1.2) | exact (·.1.1) | exact (·.1.1.1) | exact (·.1.1.2)); exact rfl; exact rfl; exact rfl; exact rfl; exact rfl; exact rfl; exact rfl; exact rfl; (intro r hr; obtain ⟨_, _, rfl⟩ := List.mem_map.1 hr; rfl); (constructor <;> simp <;> omega); exact rfl))
          refine Le.mkR rfl rfl ?_ ?_ ?_ rfl
          · repeat (first | exact SubR.nil | apply SubR.p rfl rfl | apply SubR.s rfl rfl rfl | apply SubR.a rfl rfl rfl)
          · repeat (first | exact SubR.nil | apply SubR.p rfl rfl | apply SubR.s rfl rfl rfl | apply SubR.a rfl rfl rfl)
          · repeat (first | exact SubBR.nil | apply SubBR.cons rfl (by first | rfl | (simp only [List.map_append, List.map_cons, List.map_nil]; rfl)))
        exact LatI.nil
      refine LatL.cons (by kernel_rfl) ?_ ?_
      · refine LatI.consE (n := 163) (E := repE fs i d) (f := [(28, vP (slF fs)), (29, vS 29), (30, vP (aF x)), (31, vS 31)]) (bl := [(29, ⟨46, 5, fs.map encF⟩), (31, ⟨46, 5, [encF x]⟩), (5, ⟨23, 4, [encB b]⟩), (7, ⟨46, 5, [encF x]⟩)]) (env := [(28, vP (slF fs)), (29, vS 29), (30, vP (aF x)), (31, vS 31), (1, vP (slF fs)), (3, vI i), (4, vI d), (5, (True, .addr 5 0 0)), (7, (True, .addr 7 0 0)), (11, vB true)]) (f2 := [(26, vP (aB b)), (28, vP (slF fs)), (29, vS 29), (30, vP (aF x)), (31, vS 31)]) (bl2 := [(29, ⟨46, 5, fs.map encF⟩), (31, ⟨46, 5, [encF x]⟩), (5, ⟨23, 4, [encB b]⟩), (7, ⟨46, 5, [encF x]⟩)]) rfl rfl rfl rfl ?_ ?_
        · repeat' (first
            | apply RG.nil
            | ((first | apply U_); (first
    | (apply Q_loadp TYok; exact rfl; exact rfl; (refine Ev.of rfl ?_; first | exact fun _ => ⟨⟩ | exact id | exact And.right | exact And.left | exact (·.1.2) | exact (·.1.1) | exact (·.1.1.1) | exact (·.1.1.2)); exact rfl)
    | (apply Q_load TYok; exact rfl; exact rfl; (refine Ev.of rfl ?_; first | exact fun _ => ⟨⟩ | exact id | exact And.right | exact And.left | exact (·.1.2) | exact (·.1.1) | exact (·.1.1.1) | exact (·.1.1.2)); exact rfl; exact rfl; exact rfl)
    | (apply Q_loadm TYok; exact rfl; exact rfl; (refine Ev.of rfl ?_; first | exact fun _ => ⟨⟩ | exact id | exact And.right | exact And.left | exact (·.1.2) | exact (·.1.1) | exact (·.1.1.1) | exact (·.1.1.2)); exact rfl; (intro hg; first | omega | (simp; omega) | (simp at hg; simp; omega)); exact rfl; infer_instance)
    | (apply Q_loadpa TYok; exact rfl; exact rfl; (refine Ev.of rfl ?_; first | exact fun _ => ⟨⟩ | exact id | exact And.right | exact And.left | exact (·.1.2) | exact (·.1.1) | exact (·.1.1.1) | exact (·.1.1.2)); exact rfl)
    | (apply Q_loada TYok; exact rfl; exact rfl; (refine Ev.of rfl ?_; first | exact fun _ => ⟨⟩ | exact id | exact And.right | exact And.left | exact (·.1.2) | exact (·.1.1) | exact (·.1.1.1) | exact (·.1.1.2)); exact rfl; exact rfl; exact rfl)
    | (apply Q_loadma TYok; exact rfl; exact rfl; (refine Ev.of rfl ?_; first | exact fun _ => ⟨⟩ | exact id | exact And.right | exact And.left | exact (·.1.2) | exact (·.1.1) | exact (·.1.1.1) | exact (·.1.1.2)); exact rfl; (intro hg; first | omega | (simp; omega) | (simp at hg; simp; omega)); exact rfl; infer_instance)); exact rfl))
          refine Le.mkR rfl rfl ?_ ?_ ?_ rfl
          · repeat (first | exact SubR.nil | apply SubR.p rfl rfl | apply SubR.s rfl rfl rfl | apply SubR.a rfl rfl rfl)
          · repeat (first | exact SubR.nil | apply SubR.p rfl rfl | apply SubR.s rfl rfl rfl | apply SubR.a rfl rfl rfl)
          · repeat (first | exact SubBR.nil | apply SubBR.cons rfl (by first | rfl | (simp only [List.map_append, List.map_cons, List.map_nil]; rfl)))
        refine LatI.consE (n := 163) (E := repE fs i d) (f := [(28, vP (slF fs)), (29, vS 29), (30, vP (aF x)), (31, vS 31)]) (bl := [(29, ⟨46, 5, fs.map encF⟩), (31, ⟨46, 5, [encF x]⟩), (5, ⟨23, 4, [encB b]⟩), (7, ⟨46, 5, [encF x]⟩)]) (env := [(28, vP (slF fs)), (29, vS 29), (30, vP (aF x)), (31, vS 31), (1, vP (slF fs)), (3, vI i), (4, vI d), (5, (True, .addr 5 0 0)), (7, (True, .addr 7 0 0)), (11, vB true)]) (f2 := [(28, vP (slF fs)), (30, vP (aF x)), (32, vS 32)]) (bl2 := [(32, ⟨46, 5, (fs ++ [x]).map encF⟩), (5, ⟨23, 4, [encB b]⟩), (7, ⟨46, 5, [encF x]⟩)]) rfl rfl rfl rfl ?_ ?_
        · repeat' (first
            | apply RG.nil
            | (apply S_append TYok; (refine Ev.of rfl ?_; first | exact fun _ => ⟨⟩ | exact id | exact And.right | exact And.left | exact (·.1.2) | exact (·.1.1) | exact (·.1.1.1) | exact (·.1.1.2)); (refine Ev.of rfl ?_; first | exact fun _ => ⟨⟩ | exact id | exact And.right | exact And.left | exact (·.1.2) | exact (·.1.1) | exact (·.1.1.1) | exact (·.1.1.2)); exact rfl; exact rfl; exact rfl; exact rfl; exact rfl; exact rfl; exact rfl; exact rfl; exact rfl; exact rfl; (constructor <;> simp <;> omega); exact rfl)
            | (apply S_append0 TYok; (refine Ev.of rfl ?_; first | exact fun _ => ⟨⟩ | exact id | exact And.right | exact And.left | exact (·.1.2) | exact (·.1.1) | exact (·.1.1.1) | exact (·.1.1.2)); (refine Ev.of rfl ?_; first | exact fun _ => ⟨⟩ | exact id | exact And.right | exact And.left | exact (·.1.2) | exact (·.1.1) | exact (·.1.1.1) | exact (·.1.1.2)); exact rfl; exact rfl; exact rfl; exact rfl; exact rfl; exact rfl; exact rfl; (constructor <;> simp <;> omega); exact rfl; exact rfl)
            | (apply S_appendd TYok; (refine Ev.of rfl ?_; first | exact fun _ => ⟨⟩ | exact id | exact And.right | exact And.left | exact (·.1.2) | exact (·.1.1) | exact (·.1.1.1) | exact (·.1.1.2)); (refine Ev.of rfl ?_; first | exact fun _ => ⟨⟩ | exact id | exact And.right | exact And.left | exact (·.1.2) | exact (·.1.1) | exact (·.1.1.1) | exact (·.1.1.2)); exact rfl; exact rfl; exact rfl; exact rfl; exact rfl; exact rfl; exact rfl; exact rfl; (intro r hr; obtain ⟨_, _, rfl⟩ := List.mem_map.1 hr; rfl); (constructor <;> simp <;> omega); exact rfl))
          refine Le.mkR rfl rfl ?_ ?_ ?_ rfl
          · repeat (first | exact SubR.nil | apply SubR.p rfl (by first | rfl | (simp; done) | (congr 3; omega) | (congr 3; simp; omega)) | apply SubR.s rfl rfl rfl | apply SubR.a rfl rfl rfl | apply SubR.t rfl rfl | apply SubR.m rfl rfl rfl | apply SubR.i rfl rfl rfl rfl rfl)
          · repeat (first | exact SubR.nil | apply SubR.p rfl (by first | rfl | (simp; done) | (congr 3; omega) | (congr 3; simp; omega)) | apply SubR.s rfl rfl rfl | apply SubR.a rfl rfl rfl | apply SubR.t rfl rfl | apply SubR.m rfl rfl rfl | apply SubR.i rfl rfl rfl rfl rfl)
          · repeat (first | exact SubBR.nil | apply SubBR.cons rfl (by first | rfl | (simp only [List.map_append, List.map_replicate, List.map_cons, List.map_nil]; rfl) | (simp only [List.map_append, List.map_cons, List.map_nil, List.append_assoc, List.cons_append, List.nil_append]; rfl) | (simp; done)))
        exact LatI.nil
      refine LatL.cons (by kernel_rfl) ?_ ?_
      · refine LatI.consE (n := 163) (E := repE fs i d) (f := [(26, vP (aB b)), (28, vP (slF fs)), (29, vS 29), (30, vP (aF x)), (31, vS 31)]) (bl := [(29, ⟨46, 5, fs.map encF⟩), (31, ⟨46, 5, [encF x]⟩), (5, ⟨23, 4, [encB b]⟩), (7, ⟨46, 5, [encF x]⟩)]) (env := [(26, vP (aB b)), (28, vP (slF fs)), (29, vS 29), (30, vP (aF x)), (31, vS 31), (1, vP (slF fs)), (3, vI i), (4, vI d), (5, (True, .addr 5 0 0)), (7, (True, .addr 7 0 0)), (11, vB true)]) (f2 := [(26, vP (aB b)), (28, vP (slF fs)), (30, vP (aF x)), (32, vS 32)]) (bl2 := [(32, ⟨46, 5, (fs ++ [x]).map encF⟩), (5, ⟨23, 4, [encB b]⟩), (7, ⟨46, 5, [encF x]⟩)]) rfl rfl rfl rfl ?_ ?_
        · repeat' (first
            | apply RG.nil
            | (apply S_append TYok; (refine Ev.of rfl ?_; first | exact fun _ => ⟨⟩ | exact id | exact And.right | exact And.left | exact (·.1.2) | exact (·.1.1) | exact (·.1.1.1) | exact (·.1.1.2)); (refine Ev.of rfl ?_; first | exact fun _ => ⟨⟩ | exact id | exact And.right | exact And.left | exact (·.1.2) | exact (·.1.1) | exact (·.1.1.1) | exact (·.1.1.2)); exact rfl; exact rfl; exact rfl; exact rfl; exact rfl; exact rfl; exact rfl; exact rfl; exact rfl; exact rfl; (constructor <;> simp <;> omega); exact rfl)
            | (apply S_append0 TYok; (refine Ev.of rfl ?_; first | exact fun _ => ⟨⟩ | exact id | exact And.right | exact And.left | exact (·.1.2) | exact (·.1.1) | exact (·.1.1.1) | exact (·.1.1.2)); (refine Ev.of rfl ?_; first | exact fun _ => ⟨⟩ | exact id | exact And.right | exact And.left | exact (·.1.2) | exact (·.1.1) | exact (·.1.1.1) | exact (·.1.1.2)); exact rfl; exact rfl; exact rfl; exact rfl; exact rfl; exact rfl; exact rfl; (constructor <;> simp <;> omega); exact rfl; exact rfl)
            | (apply S_appendd TYok; (refine Ev.of rfl ?_; first | exact fun _ => ⟨⟩ | exact id | exact And.right | exact And.left | exact (·.1.2) | exact (·.1.1) | exact (·.1.1.1) | exact (·.1.1.2)); (refine Ev.of rfl ?_; first | exact fun _ => ⟨⟩ | exact id | exact And.right | exact And.left | exact (·.1.2) | exact (·.1.1) | exact (·.1.1.1) | exact (·.1.1.2)); exact rfl; exact rfl; exact rfl; exact rfl; exact rfl; exact rfl; exact rfl; exact rfl; (intro r hr; obtain ⟨_, _, rfl⟩ := List.mem_map.1 hr; rfl); (constructor <;> simp <;> omega); exact rfl))
          refine Le.mkR rfl rfl ?_ ?_ ?_ rfl
          · repeat (first | exact SubR.nil | apply SubR.p rfl (by first | rfl | (simp; done) | (congr 3; omega) | (congr 3; simp; omega)) | apply SubR.s rfl rfl rfl | apply SubR.a rfl rfl rfl | apply SubR.t rfl rfl | apply SubR.m rfl rfl rfl | apply SubR.i rfl rfl rfl rfl rfl)
          · repeat (first | exact SubR.nil | apply SubR.p rfl (by first | rfl | (simp; done) | (congr 3; omega) | (congr 3; simp; omega)) | apply SubR.s rfl rfl rfl | apply SubR.a rfl rfl rfl | apply SubR.t rfl rfl | apply SubR.m rfl rfl rfl | apply SubR.i rfl rfl rfl rfl rfl)
          · repeat (first | exact SubBR.nil | apply SubBR.cons rfl (by first | rfl | (simp only [List.map_append, List.map_replicate, List.map_cons, List.map_nil]; rfl) | (simp only [List.map_append, List.map_cons, List.map_nil, List.append_assoc, List.cons_append, List.nil_append]; rfl) | (simp; done)))
        exact LatI.nil
      refine LatL.cons (by kernel_rfl) ?_ ?_
      · refine LatI.consE (n := 163) (E := repE fs i d) (f := [(28, vP (slF fs)), (30, vP (aF x)), (32, vS 32)]) (bl := [(32, ⟨46, 5, (fs ++ [x]).map encF⟩), (5, ⟨23, 4, [encB b]⟩), (7, ⟨46, 5, [encF x]⟩)]) (env := [(28, vP (slF fs)), (30, vP (aF x)), (32, vS 32), (1, vP (slF fs)), (3, vI i), (4, vI d), (5, (True, .addr 5 0 0)), (7, (True, .addr 7 0 0)), (11, vB true)]) (f2 := [(26, vP (aB b)), (28, vP (slF fs)), (30, vP (aF x)), (32, vS 32)]) (bl2 := [(32, ⟨46, 5, (fs ++ [x]).map encF⟩), (5, ⟨23, 4, [encB b]⟩), (7, ⟨46, 5, [encF x]⟩)]) rfl rfl rfl rfl ?_ ?_
        · repeat' (first
            | apply RG.nil
            | ((first | apply U_); (first
    | (apply Q_loadp TYok; exact rfl; exact rfl; (refine Ev.of rfl ?_; first | exact fun _ => ⟨⟩ | exact id | exact And.right | exact And.left | exact (·.1.2) | exact (·.1.1) | exact (·.1.1.1) | exact (·.1.1.2)); exact rfl)
    | (apply Q_load TYok; exact rfl; exact rfl; (refine Ev.of rfl ?_; first | exact fun _ => ⟨⟩ | exact id | exact And.right | exact And.left | exact (·.1.2) | exact (·.1.1) | exact (·.1.1.1) | exact (·.1.1.2)); exact rfl; exact rfl; exact rfl)
    | (apply Q_loadm TYok; exact rfl; exact rfl; (refine Ev.of rfl ?_; first | exact fun _ => ⟨⟩ | exact id | exact And.right | exact And.left | exact (·.1.2) | exact (·.1.1) | exact (·.1.1.1) | exact (·.1.1.2)); exact rfl; (intro hg; first | omega | (simp; omega) | (simp at hg; simp; omega)); exact rfl; infer_instance)
    | (apply Q_loadpa TYok; exact rfl; exact rfl; (refine Ev.of rfl ?_; first | exact fun _ => ⟨⟩ | exact id | exact And.right | exact And.left | exact (·.1.2) | exact (·.1.1) | exact (·.1.1.1) | exact (·.1.1.2)); exact rfl)
    | (apply Q_loada TYok; exact rfl; exact rfl; (refine Ev.of rfl ?_; first | exact fun _ => ⟨⟩ | exact id | exact And.right | exact And.left | exact (·.1.2) | exact (·.1.1) | exact (·.1.1.1) | exact (·.1.1.2)); exact rfl; exact rfl; exact rfl)
    | (apply Q_loadma TYok; exact rfl; exact rfl; (refine Ev.of rfl ?_; first | exact fun _ => ⟨⟩ | exact id | exact And.right | exact And.left | exact (·.1.2) | exact (·.1.1) | exact (·.1.1.1) | exact (·.1.1.2)); exact rfl; (intro hg; first | omega | (simp; omega) | (simp at hg; simp; omega)); exact rfl; infer_instance)); exact rfl))
          refine Le.mkR rfl rfl ?_ ?_ ?_ rfl
          · repeat (first | exact SubR.nil | apply SubR.p rfl rfl | apply SubR.s rfl rfl rfl | apply SubR.a rfl rfl rfl)
          · repeat (first | exact SubR.nil | apply SubR.p rfl rfl | apply SubR.s rfl rfl rfl | apply SubR.a rfl rfl rfl)
          · repeat (first | exact SubBR.nil | apply SubBR.cons rfl (by first | rfl | (simp only [List.map_append, List.map_cons, List.map_nil]; rfl)))
        exact LatI.nil
      refine LatL.cons (by kernel_rfl) ?_ ?_
      · refine LatI.consE (n := 163) (E := repE fs i d) (f := [(26, vP (aB b)), (28, vP (slF fs)), (30, vP (aF x)), (32, vS 32)]) (bl := [(32, ⟨46, 5, (fs ++ [x]).map encF⟩), (5, ⟨23, 4, [encB b]⟩), (7, ⟨46, 5, [encF x]⟩)]) (env := [(26, vP (aB b)), (28, vP (slF fs)), (30, vP (aF x)), (32, vS 32), (1, vP (slF fs)), (3, vI i), (4, vI d), (5, (True, .addr 5 0 0)), (7, (True, .addr 7 0 0)), (11, vB true)]) (f2 := [(26, vP (aB b)), (28, vP (slF fs)), (30, vP (aF x)), (32, vS 32), (33, vB (fewF b (fs ++ [x]) []))]) (bl2 := [(32, ⟨46, 5, (fs ++ [x]).map encF⟩), (5, ⟨23, 4, [encB b]⟩), (7, ⟨46, 5, [encF x]⟩)]) rfl rfl rfl rfl ?_ ?_
        · repeat' (first
            | apply RG.nil
            | ((first | apply U_); (first
    | (apply Q_call (few_ok b (fs ++ [x]) []); (repeat (first | exact EvL.nil | refine EvL.cons (by refine Ev.of rfl ?_; first | exact fun _ => ⟨⟩ | exact id | exact And.right | exact And.left | exact (·.1.2) | exact (·.1.1) | exact (·.1.1.1) | exact (·.1.1.2)) rfl (by first | exact PSub.rfl' | exact PSub.nil' | (refine PSub.of_eq ?_; simp only [List.map_append, List.map_cons, List.map_nil, List.nil_append]; rfl)) ?_)); exact rfl)); exact rfl))
          refine Le.mkR rfl rfl ?_ ?_ ?_ rfl
          · repeat (first | exact SubR.nil | apply SubR.p rfl rfl | apply SubR.s rfl rfl rfl | apply SubR.a rfl rfl rfl)
          · repeat (first | exact SubR.nil | apply SubR.p rfl rfl | apply SubR.s rfl rfl rfl | apply SubR.a rfl rfl rfl)
          · repeat (first | exact SubBR.nil | apply SubBR.cons rfl (by first | rfl | (simp only [List.map_append, List.map_cons, List.map_nil]; rfl)))
        exact LatI.nil
      refine LatL.cons (by kernel_rfl) ?_ ?_
      · refine LatI.consE (n := 163) (E := repE fs i d) (f := [(26, vP (aB b)), (28, vP (slF fs)), (30, vP (aF x)), (32, vS 32), (33, vB (fewF b (fs ++ [x]) []))]) (bl := [(32, ⟨46, 5, (fs ++ [x]).map encF⟩), (5, ⟨23, 4, [encB b]⟩), (7, ⟨46, 5, [encF x]⟩)]) (env := [(26, vP (aB b)), (28, vP (slF fs)), (30, vP (aF x)), (32, vS 32), (33, vB (fewF b (fs ++ [x]) [])), (1, vP (slF fs)), (3, vI i), (4, vI d), (5, (True, .addr 5 0 0)), (7, (True, .addr 7 0 0)), (11, vB true)]) (f2 := [(26, vP (aB b)), (28, vP (slF fs)), (30, vP (aF x)), (32, vS 32), (33, vB (fewF b (fs ++ [x]) [])), (34, vB (!fewF b (fs ++ [x]) []))]) (bl2 := [(32, ⟨46, 5, (fs ++ [x]).map encF⟩), (5, ⟨23, 4, [encB b]⟩), (7, ⟨46, 5, [encF x]⟩)]) rfl rfl rfl rfl ?_ ?_
        · repeat' (first
            | apply RG.nil
            | ((first | apply U_); (first
    | (apply Q_not; (refine Ev.of rfl ?_; first | exact fun _ => ⟨⟩ | exact id | exact And.right | exact And.left | exact (·.1.2) | exact (·.1.1) | exact (·.1.1.1) | exact (·.1.1.2)))); exact rfl))
          refine Le.mkR rfl rfl ?_ ?_ ?_ rfl
          · repeat (first | exact SubR.nil | apply SubR.p rfl rfl | apply SubR.s rfl rfl rfl | apply SubR.a rfl rfl rfl)
          · repeat (first | exact SubR.nil | apply SubR.p rfl rfl | apply SubR.s rfl rfl rfl | apply SubR.a rfl rfl rfl)
          · repeat (first | exact SubBR.nil | apply SubBR.cons rfl (by first | rfl | (simp only [List.map_append, List.map_cons, List.map_nil]; rfl)))
        exact LatI.nil
      refine LatL.cons (by kernel_rfl) ?_ ?_
      · exact LatI.nil
      exact LatL.nil
    · apply Then.n
      refine ⟨(), trivial, ?_⟩
      refine Le.mkR rfl rfl ?_ ?_ ?_ rfl
      · repeat (first | exact SubR.nil | apply SubR.p rfl (by first | rfl | (simp; done) | (congr 3; omega) | (congr 3; simp; omega)) | apply SubR.s rfl rfl rfl | apply SubR.a rfl rfl rfl | apply SubR.t rfl rfl | apply SubR.m rfl rfl rfl | apply SubR.i rfl rfl rfl rfl rfl)
      · repeat (first | exact SubR.nil | apply SubR.p rfl (by first | rfl | (simp; done) | (congr 3; omega) | (congr 3; simp; omega)) | apply SubR.s rfl rfl rfl | apply SubR.a rfl rfl rfl | apply SubR.t rfl rfl | apply SubR.m rfl rfl rfl | apply SubR.i rfl rfl rfl rfl rfl)
      · repeat (first | exact SubBR.nil | apply SubBR.cons rfl (by first | rfl | (simp only [List.map_append, List.map_replicate, List.map_cons, List.map_nil]; rfl) | (simp only [List.map_append, List.map_cons, List.map_nil, List.append_assoc, List.cons_append, List.nil_append]; rfl) | (simp; done)))
  case hy =>
    rintro ⟨⟩ -
    apply W.norm (by repeat (first | exact App.nil | apply App.cons))
    repeat' (first
      | apply RG.nil
      | apply Lex.nil
      | apply Then.n
      | apply Then.r
      | apply Then.x
      | apply InBlock.n
      | apply InBlock.r
      | apply InBlock.hit
      | (apply InBlock.miss; exact rfl)
      | apply W.seq
      | apply W.region
      | apply W.block
      | apply W.skip
      | apply W.ret
      | apply W.exit
      | (refine W.drawA (id := 2) (L := [false, false, false, false, false, false, false, false, false]) mixed rfl ?_)
      | exact RAll.nil
      | (refine RAll.cons rfl ?_ ?_)
      | (refine RA.step (L := [false, false, false, false, false, false, false, false, false]) (i := 0) (is := [1, 2, 4]) (by kernel_rfl) ?_)
      | (refine RA.step (L := [false, false, false, false, true, false, false, false, false]) (i := 0) (is := [1, 2, 5]) (by kernel_rfl) ?_)
      | (refine RA.step (L := [false, false, false, false, true, true, false, false, false]) (i := 0) (is := [1, 2]) (by kernel_rfl) ?_)
      | (refine RA.step (L := [false, false, true, false, true, true, false, false, false]) (i := 0) (is := [1]) (by kernel_rfl) ?_)
      | (refine RA.step (L := [false, true, true, false, true, true, false, false, false]) (i := 0) (is := [3]) (by kernel_rfl) ?_)
      | (refine RA.step (L := [false, true, true, true, true, true, false, false, false]) (i := 0) (is := [6]) (by kernel_rfl) ?_)
      | (refine RA.step (L := [false, true, true, true, true, true, true, false, false]) (i := 0) (is := []) (by kernel_rfl) ?_)
      | (refine RA.step (L := [true, true, true, true, true, true, true, false, false]) (i := 7) (is := []) (by kernel_rfl) ?_)
      | (refine RA.step (L := [true, true, true, true, true, true, true, true, false]) (i := 8) (is := []) (by kernel_rfl) ?_)
      | (refine RA.done (L := [true, true, true, true, true, true, true, true, true]) (by kernel_rfl) ?_)
      | (refine RA.step (L := [true, true, true, true, true, true, false, false, false]) (i := 6) (is := []) (by kernel_rfl) ?_)
      | (refine RA.step (L := [true, true, true, false, true, true, false, false, false]) (i := 3) (is := []) (by kernel_rfl) ?_)
      | (refine RA.step (L := [true, false, true, false, true, true, false, false, false]) (i := 1) (is := []) (by kernel_rfl) ?_)
      | (refine RA.step (L := [false, true, false, false, true, true, false, false, false]) (i := 0) (is := [2]) (by kernel_rfl) ?_)
      | (refine RA.step (L := [true, true, false, false, true, true, false, false, false]) (i := 2) (is := []) (by kernel_rfl) ?_)
      | (refine RA.step (L := [true, false, false, false, true, true, false, false, false]) (i := 1) (is := [2]) (by kernel_rfl) ?_)
      | (refine RA.step (L := [false, false, true, false, true, false, false, false, false]) (i := 0) (is := [1, 5]) (by kernel_rfl) ?_)
      | (refine RA.step (L := [false, true, true, false, true, false, false, false, false]) (i := 0) (is := [3, 5]) (by kernel_rfl) ?_)
      | (refine RA.step (L := [false, true, true, true, true, false, false, false, false]) (i := 0) (is := [5]) (by kernel_rfl) ?_)
      | (refine RA.step (L := [true, true, true, true, true, false, false, false, false]) (i := 5) (is := []) (by kernel_rfl) ?_)
      | (refine RA.step (L := [true, true, true, false, true, false, false, false, false]) (i := 3) (is := [5]) (by kernel_rfl) ?_)
      | (refine RA.step (L := [true, false, true, false, true, false, false, false, false]) (i := 1) (is := [5]) (by kernel_rfl) ?_)
      | (refine RA.step (L := [false, true, false, false, true, false, false, false, false]) (i := 0) (is := [2, 5]) (by kernel_rfl) ?_)
      | (refine RA.step (L := [true, true, false, false, true, false, false, false, false]) (i := 2) (is := [5]) (by kernel_rfl) ?_)
      | (refine RA.step (L := [true, false, false, false, true, false, false, false, false]) (i := 1) (is := [2, 5]) (by kernel_rfl) ?_)
      | (refine RA.step (L := [false, false, true, false, false, false, false, false, false]) (i := 0) (is := [1, 4]) (by kernel_rfl) ?_)
      | (refine RA.step (L := [false, true, true, false, false, false, false, false, false]) (i := 0) (is := [3, 4]) (by kernel_rfl) ?_)
      | (refine RA.step (L := [false, true, true, true, false, false, false, false, false]) (i := 0) (is := [4]) (by kernel_rfl) ?_)
      | (refine RA.step (L := [true, true, true, true, false, false, false, false, false]) (i := 4) (is := []) (by kernel_rfl) ?_)
      | (refine RA.step (L := [true, true, true, false, false, false, false, false, false]) (i := 3) (is := [4]) (by kernel_rfl) ?_)
      | (refine RA.step (L := [true, false, true, false, false, false, false, false, false]) (i := 1) (is := [4]) (by kernel_rfl) ?_)
      | (refine RA.step (L := [false, true, false, false, false, false, false, false, false]) (i := 0) (is := [2, 4]) (by kernel_rfl) ?_)
      | (refine RA.step (L := [true, true, false, false, false, false, false, false, false]) (i := 2) (is := [4]) (by kernel_rfl) ?_)
      | (refine RA.step (L := [true, false, false, false, false, false, false, false, false]) (i := 1) (is := [2, 4]) (by kernel_rfl) ?_)
      | ((first | apply U_ | (apply Ug_; exact rfl; exact rfl) | (apply Ugq_; exact rfl; exact rfl)); (first
    | (apply Q_move; (refine Ev.of rfl ?_; first | exact fun _ => ⟨⟩ | exact id | exact And.right | exact And.left | exact (·.1.2) | exact (·.1.1) | exact (·.1.1.1) | exact (·.1.1.2)))
    | (apply Q_assign; (refine Ev.of rfl ?_; first | exact fun _ => ⟨⟩ | exact id | exact And.right | exact And.left | exact (·.1.2) | exact (·.1.1) | exact (·.1.1.1) | exact (·.1.1.2)))
    | (apply Q_fieldp TYok; (refine Ev.of rfl ?_; first | exact fun _ => ⟨⟩ | exact id | exact And.right | exact And.left | exact (·.1.2) | exact (·.1.1) | exact (·.1.1.1) | exact (·.1.1.2)); exact rfl; exact rfl; exact rfl; exact rfl; exact rfl)
    | (apply Q_field TYok; (refine Ev.of rfl ?_; first | exact fun _ => ⟨⟩ | exact id | exact And.right | exact And.left | exact (·.1.2) | exact (·.1.1) | exact (·.1.1.1) | exact (·.1.1.2)); exact rfl; exact rfl; exact rfl; exact rfl; exact rfl)
    | (apply Q_loadp TYok; exact rfl; exact rfl; (refine Ev.of rfl ?_; first | exact fun _ => ⟨⟩ | exact id | exact And.right | exact And.left | exact (·.1.2) | exact (·.1.1) | exact (·.1.1.1) | exact (·.1.1.2)); exact rfl)
    | (apply Q_load TYok; exact rfl; exact rfl; (refine Ev.of rfl ?_; first | exact fun _ => ⟨⟩ | exact id | exact And.right | exact And.left | exact (·.1.2) | exact (·.1.1) | exact (·.1.1.1) | exact (·.1.1.2)); exact rfl; exact rfl; exact rfl)
    | (apply Q_loadm TYok; exact rfl; exact rfl; (refine Ev.of rfl ?_; first | exact fun _ => ⟨⟩ | exact id | exact And.right | exact And.left | exact (·.1.2) | exact (·.1.1) | exact (·.1.1.1) | exact (·.1.1.2)); exact rfl; (intro hg; first | omega | (simp; omega) | (simp at hg; simp; omega)); exact rfl; infer_instance)
    | (apply Q_loadpa TYok; exact rfl; exact rfl; (refine Ev.of rfl ?_; first | exact fun _ => ⟨⟩ | exact id | exact And.right | exact And.left | exact (·.1.2) | exact (·.1.1) | exact (·.1.1.1) | exact (·.1.1.2)); exact rfl)
    | (apply Q_loada TYok; exact rfl; exact rfl; (refine Ev.of rfl ?_; first | exact fun _ => ⟨⟩ | exact id | exact And.right | exact And.left | exact (·.1.2) | exact (·.1.1) | exact (·.1.1.1) | exact (·.1.1.2)); exact rfl; exact rfl; exact rfl)
    | (apply Q_loadma TYok; exact rfl; exact rfl; (refine Ev.of rfl ?_; first | exact fun _ => ⟨⟩ | exact id | exact And.right | exact And.left | exact (·.1.2) | exact (·.1.1) | exact (·.1.1.1) | exact (·.1.1.2)); exact rfl; (intro hg; first | omega | (simp; omega) | (simp at hg; simp; omega)); exact rfl; infer_instance)
    | (apply Q_add; (refine Ev.of rfl ?_; first | exact fun _ => ⟨⟩ | exact id | exact And.right | exact And.left | exact (·.1.2) | exact (·.1.1) | exact (·.1.1.1) | exact (·.1.1.2)); (refine Ev.of rfl ?_; first | exact fun _ => ⟨⟩ | exact id | exact And.right | exact And.left | exact (·.1.2) | exact (·.1.1) | exact (·.1.1.1) | exact (·.1.1.2)); (first | omega | (constructor <;> omega)))
    | (apply Q_bin; (refine Ev.of rfl ?_; first | exact fun _ => ⟨⟩ | exact id | exact And.right | exact And.left | exact (·.1.2) | exact (·.1.1) | exact (·.1.1.1) | exact (·.1.1.2)); (refine Ev.of rfl ?_; first | exact fun _ => ⟨⟩ | exact id | exact And.right | exact And.left | exact (·.1.2) | exact (·.1.1) | exact (·.1.1.1) | exact (·.1.1.2)); exact rfl)
    | (apply Q_or; (refine Ev.of rfl ?_; first | exact fun _ => ⟨⟩ | exact id | exact And.right | exact And.left | exact (·.1.2) | exact (·.1.1) | exact (·.1.1.1) | exact (·.1.1.2)); (refine Ev.of rfl ?_; first | exact fun _ => ⟨⟩ | exact id | exact And.right | exact And.left | exact (·.1.2) | exact (·.1.1) | exact (·.1.1.1) | exact (·.1.1.2)))
    | (apply Q_and; (refine Ev.of rfl ?_; first | exact fun _ => ⟨⟩ | exact id | exact And.right | exact And.left | exact (·.1.2) | exact (·.1.1) | exact (·.1.1.1) | exact (·.1.1.2)); (refine Ev.of rfl ?_; first | exact fun _ => ⟨⟩ | exact id | exact And.right | exact And.left | exact (·.1.2) | exact (·.1.1) | exact (·.1.1.1) | exact (·.1.1.2)))
    | (apply Q_not; (refine Ev.of rfl ?_; first | exact fun _ => ⟨⟩ | exact id | exact And.right | exact And.left | exact (·.1.2) | exact (·.1.1) | exact (·.1.1.1) | exact (·.1.1.2)))
    | (apply Q_lenm TYok; (refine Ev.of rfl ?_; first | exact fun _ => ⟨⟩ | exact id | exact And.right | exact And.left | exact (·.1.2) | exact (·.1.1) | exact (·.1.1.1) | exact (·.1.1.2)); exact rfl; exact rfl)
    | (apply Q_lend TYok; (refine Ev.of rfl ?_; first | exact fun _ => ⟨⟩ | exact id | exact And.right | exact And.left | exact (·.1.2) | exact (·.1.1) | exact (·.1.1.1) | exact (·.1.1.2)); exact rfl; exact rfl)
    | (apply Q_lenom TYok; (refine Ev.of rfl ?_; first | exact fun _ => ⟨⟩ | exact id | exact And.right | exact And.left | exact (·.1.2) | exact (·.1.1) | exact (·.1.1.1) | exact (·.1.1.2)); exact rfl; exact rfl; exact rfl)
    | (apply Q_len TYok; (refine Ev.of rfl ?_; first | exact fun _ => ⟨⟩ | exact id | exact And.right | exact And.left | exact (·.1.2) | exact (·.1.1) | exact (·.1.1.1) | exact (·.1.1.2)); exact rfl; exact rfl; exact rfl)
    | (apply Q_len0 TYok; (refine Ev.of rfl ?_; first | exact fun _ => ⟨⟩ | exact id | exact And.right | exact And.left | exact (·.1.2) | exact (·.1.1) | exact (·.1.1.1) | exact (·.1.1.2)); exact rfl; exact rfl)
    | (apply Q_lens TYok; (refine Ev.of rfl ?_; first | exact fun _ => ⟨⟩ | exact id | exact And.right | exact And.left | exact (·.1.2) | exact (·.1.1) | exact (·.1.1.1) | exact (·.1.1.2)); exact rfl; exact rfl)
    | (apply Q_indexd TYok; (refine Ev.of rfl ?_; first | exact fun _ => ⟨⟩ | exact id | exact And.right | exact And.left | exact (·.1.2) | exact (·.1.1) | exact (·.1.1.1) | exact (·.1.1.2)); (refine Ev.of rfl ?_; first | exact fun _ => ⟨⟩ | exact id | exact And.right | exact And.left | exact (·.1.2) | exact (·.1.1) | exact (·.1.1.1) | exact (·.1.1.2)); exact rfl; exact rfl; exact rfl; (intro hg; first | exact getRowN (by first | omega | (simp at hg; omega)) | exact getRowI (by first | omega | (simp at hg; omega))); exact rfl)
    | (apply Q_index TYok; (refine Ev.of rfl ?_; first | exact fun _ => ⟨⟩ | exact id | exact And.right | exact And.left | exact (·.1.2) | exact (·.1.1) | exact (·.1.1.1) | exact (·.1.1.2)); (refine Ev.of rfl ?_; first | exact fun _ => ⟨⟩ | exact id | exact And.right | exact And.left | exact (·.1.2) | exact (·.1.1) | exact (·.1.1.1) | exact (·.1.1.2)); exact rfl; exact rfl; exact rfl; exact rfl; exact rfl; (intro hg; first | (simp; omega) | (simp at hg; simp; omega)))
    | (apply Q_binS; (refine Ev.of rfl ?_; first | exact fun _ => ⟨⟩ | exact id | exact And.right | exact And.left | exact (·.1.2) | exact (·.1.1) | exact (·.1.1.1) | exact (·.1.1.2)); (refine Ev.of rfl ?_; first | exact fun _ => ⟨⟩ | exact id | exact And.right | exact And.left | exact (·.1.2) | exact (·.1.1) | exact (·.1.1.1) | exact (·.1.1.2)); exact rfl)
    | (apply Q_binB TYok; (refine Ev.of rfl ?_; first | exact fun _ => ⟨⟩ | exact id | exact And.right | exact And.left | exact (·.1.2) | exact (·.1.1) | exact (·.1.1.1) | exact (·.1.1.2)); (refine Ev.of rfl ?_; first | exact fun _ => ⟨⟩ | exact id | exact And.right | exact And.left | exact (·.1.2) | exact (·.1.1) | exact (·.1.1.1) | exact (·.1.1.2)); exact rfl; exact rfl; exact rfl)
    | (apply Q_extract; (refine Ev.of rfl ?_; first | exact fun _ => ⟨⟩ | exact id | exact And.right | exact And.left | exact (·.1.2) | exact (·.1.1) | exact (·.1.1.1) | exact (·.1.1.2)); exact rfl)); exact rfl)
      | (apply S_alloc TYok; exact rfl; exact rfl; exact rfl; exact rfl)
      | (apply S_store TYok; (refine Ev.of rfl ?_; first | exact fun _ => ⟨⟩ | exact id | exact And.right | exact And.left | exact (·.1.2) | exact (·.1.1) | exact (·.1.1.1) | exact (·.1.1.2)); (refine Ev.of rfl ?_; first | exact fun _ => ⟨⟩ | exact id | exact And.right | exact And.left | exact (·.1.2) | exact (·.1.1) | exact (·.1.1.1) | exact (·.1.1.2)); exact rfl; exact rfl; exact rfl; exact rfl; exact rfl)
      | (apply S_storem TYok; (refine Ev.of rfl ?_; first | exact fun _ => ⟨⟩ | exact id | exact And.right | exact And.left | exact (·.1.2) | exact (·.1.1) | exact (·.1.1.1) | exact (·.1.1.2)); (refine Ev.of rfl ?_; first | exact fun _ => ⟨⟩ | exact id | exact And.right | exact And.left | exact (·.1.2) | exact (·.1.1) | exact (·.1.1.1) | exact (·.1.1.2)); exact rfl; exact rfl; (first | omega | (simp; omega)); exact rfl; (intro z; exact rfl))
      | (apply S_lit TYok; (repeat (first | exact EvR.nil | apply EvR.cons (by refine Ev.of rfl ?_; first | exact fun _ => ⟨⟩ | exact id | exact And.right | exact And.left | exact (·.1.2) | exact (·.1.1) | exact (·.1.1.1) | exact (·.1.1.2)))); exact rfl; exact rfl; exact rfl; exact rfl; exact rfl; exact rfl; exact rfl; exact rfl; exact rfl)
      | (apply S_append TYok; (refine Ev.of rfl ?_; first | exact fun _ => ⟨⟩ | exact id | exact And.right | exact And.left | exact (·.1.2) | exact (·.1.1) | exact (·.1.1.1) | exact (·.1.1.2)); (refine Ev.of rfl ?_; first | exact fun _ => ⟨⟩ | exact id | exact And.right | exact And.left | exact (·.1.2) | exact (·.1.1) | exact (·.1.1.1) | exact (·.1.1.2)); exact rfl; exact rfl; exact rfl; exact rfl; exact rfl; exact rfl; exact rfl; exact rfl; exact rfl; exact rfl; (constructor <;> simp <;> omega); exact rfl)
      | (apply S_append0 TYok; (refine Ev.of rfl ?_; first | exact fun _ => ⟨⟩ | exact id | exact And.right | exact And.left | exact (·.1.2) | exact (·.1.1) | exact (·.1.1.1) | exact (·.1.1.2)); (refine Ev.of rfl ?_; first | exact fun _ => ⟨⟩ | exact id | exact And.right | exact And.left | exact (·.1.2) | exact (·.1.1) | exact (·.1.1.1) | exact (·.1.1.2)); exact rfl; exact rfl; exact rfl; exact rfl; exact rfl; exact rfl; exact rfl; (constructor <;> simp <;> omega); exact rfl; exact rfl)
      | (apply S_appendd TYok; (refine Ev.of rfl ?_; first | exact fun _ => ⟨⟩ | exact id | exact And.right | exact And.left | exact (·.1.2) | exact (·.1.1) | exact (·.1.1.1) | exact (·.1.1.2)); (refine Ev.of rfl ?_; first | exact fun _ => ⟨⟩ | exact id | exact And.right | exact And.left | exact (·.1.2) | exact (·.1.1) | exact (·.1.1.1) | exact (·.1.1.2)); exact rfl; exact rfl; exact rfl; exact rfl; exact rfl; exact rfl; exact rfl; exact rfl; (intro r hr; obtain ⟨_, _, rfl⟩ := List.mem_map.1 hr; rfl); (constructor <;> simp <;> omega); exact rfl)
      | (apply S_box; (refine Ev.of rfl ?_; first | exact fun _ => ⟨⟩ | exact id | exact And.right | exact And.left | exact (·.1.2) | exact (·.1.1) | exact (·.1.1.1) | exact (·.1.1.2)); exact rfl; exact rfl; exact rfl)
      | (apply S_isnil TYok; exact rfl; exact rfl; exact rfl; (refine Ev.of rfl ?_; first | exact fun _ => ⟨⟩ | exact id | exact And.right | exact And.left | exact (·.1.2) | exact (·.1.1) | exact (·.1.1.1) | exact (·.1.1.2)); intro bn hnil)
      | (apply RG.gT; exact rfl; exact rfl; (first | assumption | decide))
      | (apply RG.gF; exact rfl; exact rfl; (first | assumption | decide); exact rfl)
      | (refine W.cond (by refine Ev.of rfl ?_; first | exact fun _ => ⟨⟩ | exact id | exact And.right | exact And.left | exact (·.1.2) | exact (·.1.1) | exact (·.1.1.1) | exact (·.1.1.2)) (fun hb => ?_) (fun hb => ?_) <;> (try simp at hb) <;> (try (exfalso; omega))))
    · exact Fin.retB rfl rfl
    have hf : fewF b (fs ++ [x]) [] = true := by simpa using hb
    obtain ⟨hl0, _, hl2, _⟩ := few_big hf
    have hl3 : fs.length ≤ 29 := by simp at hl2; omega
    have hl : big fs.length := by show _ ≤ 1000000; omega
    rcases add_cases fs x with ha | ⟨ha, a1, a2, a3, a4, a5, a6⟩
    · repeat' (first
        | apply RG.nil
        | apply Lex.nil
        | apply Then.n
        | apply Then.r
        | apply Then.x
        | apply InBlock.n
        | apply InBlock.r
        | apply InBlock.hit
        | (apply InBlock.miss; exact rfl)
        | apply W.seq
        | apply W.region
        | apply W.block
        | apply W.skip
        | apply W.ret
        | apply W.exit
        | (refine W.drawA (id := 2) (L := [false, false, false, false, false, false, false, false, false]) mixed rfl ?_)
        | exact RAll.nil
        | (refine RAll.cons rfl ?_ ?_)
        | (refine RA.step (L := [false, false, false, false, false, false, false, false, false]) (i := 0) (is := [1, 2, 4]) (by kernel_rfl) ?_)
        | (refine RA.step (L := [false, false, false, false, true, false, false, false, false]) (i := 0) (is := [1, 2, 5]) (by kernel_rfl) ?_)
        | (refine RA.step (L := [false, false, false, false, true, true, false, false, false]) (i := 0) (is := [1, 2]) (by kernel_rfl) ?_)
        | (refine RA.step (L := [false, false, true, false, true, true, false, false, false]) (i := 0) (is := [1]) (by kernel_rfl) ?_)
        | (refine RA.step (L := [false, true, true, false, true, true, false, false, false]) (i := 0) (is := [3]) (by kernel_rfl) ?_)
        | (refine RA.step (L := [false, true, true, true, true, true, false, false, false]) (i := 0) (is := [6]) (by kernel_rfl) ?_)
        | (refine RA.step (L := [false, true, true, true, true, true, true, false, false]) (i := 0) (is := []) (by kernel_rfl) ?_)
        | (refine RA.step (L := [true, true, true, true, true, true, true, false, false]) (i := 7) (is := []) (by kernel_rfl) ?_)
        | (refine RA.step (L := [true, true, true, true, true, true, true, true, false]) (i := 8) (is := []) (by kernel_rfl) ?_)
        | (refine RA.done (L := [true, true, true, true, true, true, true, true, true]) (by kernel_rfl) ?_)
        | (refine RA.step (L := [true, true, true, true, true, true, false, false, false]) (i := 6) (is := []) (by kernel_rfl) ?_)
        | (refine RA.step (L := [true, true, true, false, true, true, false, false, false]) (i := 3) (is := []) (by kernel_rfl) ?_)
        | (refine RA.step (L := [true, false, true, false, true, true, false, false, false]) (i := 1) (is := []) (by kernel_rfl) ?_)
        | (refine RA.step (L := [false, true, false, false, true, true, false, false, false]) (i := 0) (is := [2]) (by kernel_rfl) ?_)
        | (refine RA.step (L := [true, true, false, false, true, true, false, false, false]) (i := 2) (is := []) (by kernel_rfl) ?_)
        | (refine RA.step (L := [true, false, false, false, true, true, false, false, false]) (i := 1) (is := [2]) (by kernel_rfl) ?_)
        | (refine RA.step (L := [false, false, true, false, true, false, false, false, false]) (i := 0) (is := [1, 5]) (by kernel_rfl) ?_)
        | (refine RA.step (L := [false, true, true, false, true, false, false, false, false]) (i := 0) (is := [3, 5]) (by kernel_rfl) ?_)
        | (refine RA.step (L := [false, true, true, true, true, false, false, false, false]) (i := 0) (is := [5]) (by kernel_rfl) ?_)
        | (refine RA.step (L := [true, true, true, true, true, false, false, false, false]) (i := 5) (is := []) (by kernel_rfl) ?_)
        | (refine RA.step (L := [true, true, true, false, true, false, false, false, false]) (i := 3) (is := [5]) (by kernel_rfl) ?_)
        | (refine RA.step (L := [true, false, true, false, true, false, false, false, false]) (i := 1) (is := [5]) (by kernel_rfl) ?_)
        | (refine RA.step (L := [false, true, false, false, true, false, false, false, false]) (i := 0) (is := [2, 5]) (by kernel_rfl) ?_)
        | (refine RA.step (L := [true, true, false, false, true, false, false, false, false]) (i := 2) (is := [5]) (by kernel_rfl) ?_)
        | (refine RA.step (L := [true, false, false, false, true, false, false, false, false]) (i := 1) (is := [2, 5]) (by kernel_rfl) ?_)
        | (refine RA.step (L := [false, false, true, false, false, false, false, false, false]) (i := 0) (is := [1, 4]) (by kernel_rfl) ?_)
        | (refine RA.step (L := [false, true, true, false, false, false, false, false, false]) (i := 0) (is := [3, 4]) (by kernel_rfl) ?_)
        | (refine RA.step (L := [false, true, true, true, false, false, false, false, false]) (i := 0) (is := [4]) (by kernel_rfl) ?_)
        | (refine RA.step (L := [true, true, true, true, false, false, false, false, false]) (i := 4) (is := []) (by kernel_rfl) ?_)
        | (refine RA.step (L := [true, true, true, false, false, false, false, false, false]) (i := 3) (is := [4]) (by kernel_rfl) ?_)
        | (refine RA.step (L := [true, false, true, false, false, false, false, false, false]) (i := 1) (is := [4]) (by kernel_rfl) ?_)
        | (refine RA.step (L := [false, true, false, false, false, false, false, false, false]) (i := 0) (is := [2, 4]) (by kernel_rfl) ?_)
        | (refine RA.step (L := [true, true, false, false, false, false, false, false, false]) (i := 2) (is := [4]) (by kernel_rfl) ?_)
        | (refine RA.step (L := [true, false, false, false, false, false, false, false, false]) (i := 1) (is := [2, 4]) (by kernel_rfl) ?_)
        | ((first | apply U_ | (apply Ug_; exact rfl; exact rfl) | (apply Ugq_; exact rfl; exact rfl)); (first
    | (apply Q_move; (refine Ev.of rfl ?_; first | exact fun _ => ⟨⟩ | exact id | exact And.right | exact And.left | exact (·.1.2) | exact (·.1.1) | exact (·.1.1.1) | exact (·.1.1.2)))
    | (apply Q_assign; (refine Ev.of rfl ?_; first | exact fun _ => ⟨⟩ | exact id | exact And.right | exact And.left | exact (·.1.2) | exact (·.1.1) | exact (·.1.1.1) | exact (·.1.1.2)))
    | (apply Q_fieldp TYok; (refine Ev.of rfl ?_; first | exact fun _ => ⟨⟩ | exact id | exact And.right | exact And.left | exact (·.1.2) | exact (·.1.1) | exact (·.1.1.1) | exact (·.1.1.2)); exact rfl; exact rfl; exact rfl; exact rfl; exact rfl)
    | (apply Q_field TYok; (refine Ev.of rfl ?_; first | exact fun _ => ⟨⟩ | exact id | exact And.right | exact And.left | exact (·.1.2) | exact (·.1.1) | exact (·.1.1.1) | exact (·.1.1.2)); exact rfl; exact rfl; exact rfl; exact rfl; exact rfl)
    | (apply Q_loadp TYok; exact rfl; exact rfl; (refine Ev.of rfl ?_; first | exact fun _ => ⟨⟩ | exact id | exact And.right | exact And.left | exact (·.1.2) | exact (·.1.1) | exact (·.1.1.1) | exact (·.1.1.2)); exact rfl)
    | (apply Q_load TYok; exact rfl; exact rfl; (refine Ev.of rfl ?_; first | exact fun _ => ⟨⟩ | exact id | exact And.right | exact And.left | exact (·.1.2) | exact (·.1.1) | exact (·.1.1.1) | exact (·.1.1.2)); exact rfl; exact rfl; exact rfl)
    | (apply Q_loadm TYok; exact rfl; exact rfl; (refine Ev.of rfl ?_; first | exact fun _ => ⟨⟩ | exact id | exact And.right | exact And.left | exact (·.1.2) | exact (·.1.1) | exact (·.1.1.1) | exact (·.1.1.2)); exact rfl; (intro hg; first | omega | (simp; omega) | (simp at hg; simp; omega)); exact rfl; infer_instance)
    | (apply Q_loadpa TYok; exact rfl; exact rfl; (refine Ev.of rfl ?_; first | exact fun _ => ⟨⟩ | exact id | exact And.right | exact And.left | exact (·.1.2) | exact (·.1.1) | exact (·.1.1.1) | exact (·.1.1.2)); exact rfl)
    | (apply Q_loada TYok; exact rfl; exact rfl; (refine Ev.of rfl ?_; first | exact fun _ => ⟨⟩ | exact id | exact And.right | exact And.left | exact (·.1.2) | exact (·.1.1) | exact (·.1.1.1) | exact (·.1.1.2)); exact rfl; exact rfl; exact rfl)
    | (apply Q_loadma TYok; exact rfl; exact rfl; (refine Ev.of rfl ?_; first | exact fun _ => ⟨⟩ | exact id | exact And.right | exact And.left | exact (·.1.2) | exact (·.1.1) | exact (·.1.1.1) | exact (·.1.1.2)); exact rfl; (intro hg; first | omega | (simp; omega) | (simp at hg; simp; omega)); exact rfl; infer_instance)
    | (apply Q_add; (refine Ev.of rfl ?_; first | exact fun _ => ⟨⟩ | exact id | exact And.right | exact And.left | exact (·.1.2) | exact (·.1.1) | exact (·.1.1.1) | exact (·.1.1.2)); (refine Ev.of rfl ?_; first | exact fun _ => ⟨⟩ | exact id | exact And.right | exact And.left | exact (·.1.2) | exact (·.1.1) | exact (·.1.1.1) | exact (·.1.1.2)); (first | omega | (constructor <;> omega)))
    | (apply Q_bin; (refine Ev.of rfl ?_; first | exact fun _ => ⟨⟩ | exact id | exact And.right | exact And.left | exact (·.1.2) | exact (·.1.1) | exact (·.1.1.1) | exact (·.1.1.2)); (refine Ev.of rfl ?_; first | exact fun _ => ⟨⟩ | exact id | exact And.right | exact And.left | exact (·.1.2) | exact (·.1.1) | exact (·.1.1.1) | exact (·.1.1.2)); exact rfl)
    | (apply Q_or; (refine Ev.of rfl ?_; first | exact fun _ => ⟨⟩ | exact id | exact And.right | exact And.left | exact (·.1.2) | exact (·.1.1) | exact (·.1.1.1) | exact (·.1.1.2)); (refine Ev.of rfl ?_; first | exact fun _ => ⟨⟩ | exact id | exact And.right | exact And.left | exact (·.1.2) | exact (·.1.1) | exact (·.1.1.1) | exact (·.1.1.2)))
    | (apply Q_and; (refine Ev.of rfl ?_; first | exact fun _ => ⟨⟩ | exact id | exact And.right | exact And.left | exact (·.1.2) | exact (·.1.1) | exact (·.1.1.1) | exact (·.1.1.2)); (refine Ev.of rfl ?_; first | exact fun _ => ⟨⟩ | exact id | exact And.right | exact And.left | exact (·.1.2) | exact (·.1.1) | exact (·.1.1.1) | exact (·.1.1.2)))
    | (apply Q_not; (refine Ev.of rfl ?_; first | exact fun _ => ⟨⟩ | exact id | exact And.right | exact And.left | exact (·.1.2) | exact (·.1.1) | exact (·.1.1.1) | exact (·.1.1.2)))
    | (apply Q_lenm TYok; (refine Ev.of rfl ?_; first | exact fun _ => ⟨⟩ | exact id | exact And.right | exact And.left | exact (·.1.2) | exact (·.1.1) | exact (·.1.1.1) | exact (·.1.1.2)); exact rfl; exact rfl)
    | (apply Q_lend TYok; (refine Ev.of rfl ?_; first | exact fun _ => ⟨⟩ | exact id | exact And.right | exact And.left | exact (·.1.2) | exact (·.1.1) | exact (·.1.1.1) | exact (·.1.1.2)); exact rfl; exact rfl)
    | (apply Q_lenom TYok; (refine Ev.of rfl ?_; first | exact fun _ => ⟨⟩ | exact id | exact And.right | exact And.left | exact (·.1.2) | exact (·.1.1) | exact (·.1.1.1) | exact (·.1.1.2)); exact rfl; exact rfl; exact rfl)
    | (apply Q_len TYok; (refine Ev.of rfl ?_; first | exact fun _ => ⟨⟩ | exact id | exact And.right | exact And.left | exact (·.1.2) | exact (·.1.1) | exact (·.1.1.1) | exact (·.1.1.2)); exact rfl; exact rfl; exact rfl)
    | (apply Q_len0 TYok; (refine Ev.of rfl ?_; first | exact fun _ => ⟨⟩ | exact id | exact And.right | exact And.left | exact (·.1.2) | exact (·.1.1) | exact (·.1.1.1) | exact (·.1.1.2)); exact rfl; exact rfl)
    | (apply Q_lens TYok; (refine Ev.of rfl ?_; first | exact fun _ => ⟨⟩ | exact id | exact And.right | exact And.left | exact (·.1.2) | exact (·.1.1) | exact (·.1.1.1) | exact (·.1.1.2)); exact rfl; exact rfl)
    | (apply Q_indexd TYok; (refine Ev.of rfl ?_; first | exact fun _ => ⟨⟩ | exact id | exact And.right | exact And.left | exact (·.1.2) | exact (·.1.1) | exact (·.1.1.1) | exact (·.1.1.2)); (refine Ev.of rfl ?_; first | exact fun _ => ⟨⟩ | exact id | exact And.right | exact And.left | exact (·.1.2) | exact (·.1.1) | exact (·.1.1.1) | exact (·.1.1.2)); exact rfl; exact rfl; exact rfl; (intro hg; first | exact getRowN (by first | omega | (simp at hg; omega)) | exact getRowI (by first | omega | (simp at hg; omega))); exact rfl)
    | (apply Q_index TYok; (refine Ev.of rfl ?_; first | exact fun _ => ⟨⟩ | exact id | exact And.right | exact And.left | exact (·.1.2) | exact (·.1.1) | exact (·.1.1.1) | exact (·.1.1.2)); (refine Ev.of rfl ?_; first | exact fun _ => ⟨⟩ | exact id | exact And.right | exact And.left | exact (·.1.2) | exact (·.1.1) | exact (·.1.1.1) | exact (·.1.1.2)); exact rfl; exact rfl; exact rfl; exact rfl; exact rfl; (intro hg; first | (simp; omega) | (simp at hg; simp; omega)))
    | (apply Q_binS; (refine Ev.of rfl ?_; first | exact fun _ => ⟨⟩ | exact id | exact And.right | exact And.left | exact (·.1.2) | exact (·.1.1) | exact (·.1.1.1) | exact (·.1.1.2)); (refine Ev.of rfl ?_; first | exact fun _ => ⟨⟩ | exact id | exact And.right | exact And.left | exact (·.1.2) | exact (·.1.1) | exact (·.1.1.1) | exact (·.1.1.2)); exact rfl)
    | (apply Q_binB TYok; (refine Ev.of rfl ?_; first | exact fun _ => ⟨⟩ | exact id | exact And.right | exact And.left | exact (·.1.2) | exact (·.1.1) | exact (·.1.1.1) | exact (·.1.1.2)); (refine Ev.of rfl ?_; first | exact fun _ => ⟨⟩ | exact id | exact And.right | exact And.left | exact (·.1.2) | exact (·.1.1) | exact (·.1.1.1) | exact (·.1.1.2)); exact rfl; exact rfl; exact rfl)
    | (apply Q_extract; (refine Ev.of rfl ?_; first | exact fun _ => ⟨⟩ | exact id | exact And.right | exact And.left | exact (·.1.2) | exact (·.1.1) | exact (·.1.1.1) | exact (·.1.1.2)); exact rfl)
    | (apply Q_calld (add_ok fs x h hx hl); focus ((repeat (first | exact EvD.nil | refine EvD.cons (by refine Ev.of rfl ?_; first | exact fun _ => ⟨⟩ | exact id | exact And.right | exact And.left | exact (·.1.2) | exact (·.1.1) | exact (·.1.1.1) | exact (·.1.1.2)) (by first | exact PSub.rfl' | exact PSub.nil' | (refine PSub.of_eq ?_; simp only [List.map_append, List.map_cons, List.map_nil, List.nil_append]; rfl)) ?_)); done))); exact rfl)
        | (apply S_alloc TYok; exact rfl; exact rfl; exact rfl; exact rfl)
        | (apply S_store TYok; (refine Ev.of rfl ?_; first | exact fun _ => ⟨⟩ | exact id | exact And.right | exact And.left | exact (·.1.2) | exact (·.1.1) | exact (·.1.1.1) | exact (·.1.1.2)); (refine Ev.of rfl ?_; first | exact fun _ => ⟨⟩ | exact id | exact And.right | exact And.left | exact (·.1.2) | exact (·.1.1) | exact (·.1.1.1) | exact (·.1.1.2)); exact rfl; exact rfl; exact rfl; exact rfl; exact rfl)
        | (apply S_storem TYok; (refine Ev.of rfl ?_; first | exact fun _ => ⟨⟩ | exact id | exact And.right | exact And.left | exact (·.1.2) | exact (·.1.1) | exact (·.1.1.1) | exact (·.1.1.2)); (refine Ev.of rfl ?_; first | exact fun _ => ⟨⟩ | exact id | exact And.right | exact And.left | exact (·.1.2) | exact (·.1.1) | exact (·.1.1.1) | exact (·.1.1.2)); exact rfl; exact rfl; (first | omega | (simp; omega)); exact rfl; (intro z; exact rfl))
        | (apply S_lit TYok; (repeat (first | exact EvR.nil | apply EvR.cons (by refine Ev.of rfl ?_; first | exact fun _ => ⟨⟩ | exact id | exact And.right | exact And.left | exact (·.1.2) | exact (·.1.1) | exact (·.1.1.1) | exact (·.1.1.2)))); exact rfl; exact rfl; exact rfl; exact rfl; exact rfl; exact rfl; exact rfl; exact rfl; exact rfl)
        | (apply S_append TYok; (refine Ev.of rfl ?_; first | exact fun _ => ⟨⟩ | exact id | exact And.right | exact And.left | exact (·.1.2) | exact (·.1.1) | exact (·.1.1.1) | exact (·.1.1.2)); (refine Ev.of rfl ?_; first | exact fun _ => ⟨⟩ | exact id | exact And.right | exact And.left | exact (·.1.2) | exact (·.1.1) | exact (·.1.1.1) | exact (·.1.1.2)); exact rfl; exact rfl; exact rfl; exact rfl; exact rfl; exact rfl; exact rfl; exact rfl; exact rfl; exact rfl; (constructor <;> simp <;> omega); exact rfl)
        | (apply S_append0 TYok; (refine Ev.of rfl ?_; first | exact fun _ => ⟨⟩ | exact id | exact And.right | exact And.left | exact (·.1.2) | exact (·.1.1) | exact (·.1.1.1) | exact (·.1.1.2)); (refine Ev.of rfl ?_; first | exact fun _ => ⟨⟩ | exact id | exact And.right | exact And.left | exact (·.1.2) | exact (·.1.1) | exact (·.1.1.1) | exact (·.1.1.2)); exact rfl; exact rfl; exact rfl; exact rfl; exact rfl; exact rfl; exact rfl; (constructor <;> simp <;> omega); exact rfl; exact rfl)
        | (apply S_appendd TYok; (refine Ev.of rfl ?_; first | exact fun _ => ⟨⟩ | exact id | exact And.right | exact And.left | exact (·.1.2) | exact (·.1.1) | exact (·.1.1.1) | exact (·.1.1.2)); (refine Ev.of rfl ?_; first | exact fun _ => ⟨⟩ | exact id | exact And.right | exact And.left | exact (·.1.2) | exact (·.1.1) | exact (·.1.1.1) | exact (·.1.1.2)); exact rfl; exact rfl; exact rfl; exact rfl; exact rfl; exact rfl; exact rfl; exact rfl; (intro r hr; obtain ⟨_, _, rfl⟩ := List.mem_map.1 hr; rfl); (constructor <;> simp <;> omega); exact rfl)
        | (apply S_box; (refine Ev.of rfl ?_; first | exact fun _ => ⟨⟩ | exact id | exact And.right | exact And.left | exact (·.1.2) | exact (·.1.1) | exact (·.1.1.1) | exact (·.1.1.2)); exact rfl; exact rfl; exact rfl)
        | (apply S_isnil TYok; exact rfl; exact rfl; exact rfl; (refine Ev.of rfl ?_; first | exact fun _ => ⟨⟩ | exact id | exact And.right | exact And.left | exact (·.1.2) | exact (·.1.1) | exact (·.1.1.1) | exact (·.1.1.2)); intro bn hnil)
        | (apply RG.gT; exact rfl; exact rfl; (first | assumption | decide))
        | (apply RG.gF; exact rfl; exact rfl; (first | assumption | decide); exact rfl)
        | (refine W.cond (by refine Ev.of rfl ?_; first | exact fun _ => ⟨⟩ | exact id | exact And.right | exact And.left | exact (·.1.2) | exact (·.1.1) | exact (·.1.1.1) | exact (·.1.1.2)) (fun hb => ?_) (fun hb => ?_) <;> (try simp at hb) <;> (try (exfalso; omega))))
      · exact Fin.retB rfl rfl
      all_goals exact absurd hb ha
    · have AD : ACalls Try.prog 21 [slF fs, aF x] (.tup [slF (fs ++ [x]), cI 0]) := by have := add_ok fs x h hx hl; rw [ha] at this; exact this
      have hM : ∀ f ∈ fs ++ [x], okN f.name := fun f hf => by
        rcases List.mem_append.1 hf with hf | hf
        · exact h f hf
        · rw [List.mem_singleton.1 hf]; exact hx
      have hU : ∀ f ∈ fs.map (updF x), okN f.name := fun f hf => by
        obtain ⟨g, hg, rfl⟩ := List.mem_map.1 hf
        show (updF x g).name.length ≤ _
        rw [upd_keep.2.1]; exact h g hg
      have S0 := size_ok b fs i d hn h hl
      have S1 := size_ok b (fs ++ [x]) i d hn hM (by show _ ≤ 1000000; simp; omega)
      have S3 := size_ok b (fs.map (updF x)) i d hn hU (by show _ ≤ 1000000; simp; omega)
      have RS := restated_ok fs x hl
      cases hk : sizeOk b fs i d with
      | false =>
        have k1 : sizeOk b (fs ++ [x]) i d = false := by rw [← sizeOk_fs a1 a5]; exact hk
        rw [size_no hk] at S0
        rw [size_no k1] at S1
        generalize fs ++ [x] = M at *
        repeat' (first
          | apply RG.nil
          | apply Lex.nil
          | apply Then.n
          | apply Then.r
          | apply Then.x
          | apply InBlock.n
          | apply InBlock.r
          | apply InBlock.hit
          | (apply InBlock.miss; exact rfl)
          | apply W.seq
          | apply W.region
          | apply W.block
          | apply W.skip
          | apply W.ret
          | apply W.exit
          | (refine W.drawA (id := 2) (L := [false, false, false, false, false, false, false, false, false]) mixed rfl ?_)
          | exact RAll.nil
          | (refine RAll.cons rfl ?_ ?_)
          | (refine RA.step (L := [false, false, false, false, false, false, false, false, false]) (i := 0) (is := [1, 2, 4]) (by kernel_rfl) ?_)
          | (refine RA.step (L := [false, false, false, false, true, false, false, false, false]) (i := 0) (is := [1, 2, 5]) (by kernel_rfl) ?_)
          | (refine RA.step (L := [false, false, false, false, true, true, false, false, false]) (i := 0) (is := [1, 2]) (by kernel_rfl) ?_)
          | (refine RA.step (L := [false, false, true, false, true, true, false, false, false]) (i := 0) (is := [1]) (by kernel_rfl) ?_)
          | (refine RA.step (L := [false, true, true, false, true, true, false, false, false]) (i := 0) (is := [3]) (by kernel_rfl) ?_)
          | (refine RA.step (L := [false, true, true, true, true, true, false, false, false]) (i := 0) (is := [6]) (by kernel_rfl) ?_)
          | (refine RA.step (L := [false, true, true, true, true, true, true, false, false]) (i := 0) (is := []) (by kernel_rfl) ?_)
          | (refine RA.step (L := [true, true, true, true, true, true, true, false, false]) (i := 7) (is := []) (by kernel_rfl) ?_)
          | (refine RA.step (L := [true, true, true, true, true, true, true, true, false]) (i := 8) (is := []) (by kernel_rfl) ?_)
          | (refine RA.done (L := [true, true, true, true, true, true, true, true, true]) (by kernel_rfl) ?_)
          | (refine RA.step (L := [true, true, true, true, true, true, false, false, false]) (i := 6) (is := []) (by kernel_rfl) ?_)
          | (refine RA.step (L := [true, true, true, false, true, true, false, false, false]) (i := 3) (is := []) (by kernel_rfl) ?_)
          | (refine RA.step (L := [true, false, true, false, true, true, false, false, false]) (i := 1) (is := []) (by kernel_rfl) ?_)
          | (refine RA.step (L := [false, true, false, false, true, true, false, false, false]) (i := 0) (is := [2]) (by kernel_rfl) ?_)
          | (refine RA.step (L := [true, true, false, false, true, true, false, false, false]) (i := 2) (is := []) (by kernel_rfl) ?_)
          | (refine RA.step (L := [true, false, false, false, true, true, false, false, false]) (i := 1) (is := [2]) (by kernel_rfl) ?_)
          | (refine RA.step (L := [false, false, true, false, true, false, false, false, false]) (i := 0) (is := [1, 5]) (by kernel_rfl) ?_)
          | (refine RA.step (L := [false, true, true, false, true, false, false, false, false]) (i := 0) (is := [3, 5]) (by kernel_rfl) ?_)
          | (refine RA.step (L := [false, true, true, true, true, false, false, false, false]) (i := 0) (is := [5]) (by kernel_rfl) ?_)
          | (refine RA.step (L := [true, true, true, true, true, false, false, false, false]) (i := 5) (is := []) (by kernel_rfl) ?_)
          | (refine RA.step (L := [true, true, true, false, true, false, false, false, false]) (i := 3) (is := [5]) (by kernel_rfl) ?_)
          | (refine RA.step (L := [true, false, true, false, true, false, false, false, false]) (i := 1) (is := [5]) (by kernel_rfl) ?_)
          | (refine RA.step (L := [false, true, false, false, true, false, false, false, false]) (i := 0) (is := [2, 5]) (by kernel_rfl) ?_)
          | (refine RA.step (L := [true, true, false, false, true, false, false, false, false]) (i := 2) (is := [5]) (by kernel_rfl) ?_)
          | (refine RA.step (L := [true, false, false, false, true, false, false, false, false]) (i := 1) (is := [2, 5]) (by kernel_rfl) ?_)
          | (refine RA.step (L := [false, false, true, false, false, false, false, false, false]) (i := 0) (is := [1, 4]) (by kernel_rfl) ?_)
          | (refine RA.step (L := [false, true, true, false, false, false, false, false, false]) (i := 0) (is := [3, 4]) (by kernel_rfl) ?_)
          | (refine RA.step (L := [false, true, true, true, false, false, false, false, false]) (i := 0) (is := [4]) (by kernel_rfl) ?_)
          | (refine RA.step (L := [true, true, true, true, false, false, false, false, false]) (i := 4) (is := []) (by kernel_rfl) ?_)
          | (refine RA.step (L := [true, true, true, false, false, false, false, false, false]) (i := 3) (is := [4]) (by kernel_rfl) ?_)
          | (refine RA.step (L := [true, false, true, false, false, false, false, false, false]) (i := 1) (is := [4]) (by kernel_rfl) ?_)
          | (refine RA.step (L := [false, true, false, false, false, false, false, false, false]) (i := 0) (is := [2, 4]) (by kernel_rfl) ?_)
          | (refine RA.step (L := [true, true, false, false, false, false, false, false, false]) (i := 2) (is := [4]) (by kernel_rfl) ?_)
          | (refine RA.step (L := [true, false, false, false, false, false, false, false, false]) (i := 1) (is := [2, 4]) (by kernel_rfl) ?_)
          | ((first | apply U_ | (apply Ug_; exact rfl; exact rfl) | (apply Ugq_; exact rfl; exact rfl)); (first
    | (apply Q_move; (refine Ev.of rfl ?_; first | exact fun _ => ⟨⟩ | exact id | exact And.right | exact And.left | exact (·.1.2) | exact (·.1.1) | exact (·.1.1.1) | exact (·.1.1.2)))
    | (apply Q_assign; (refine Ev.of rfl ?_; first | exact fun _ => ⟨⟩ | exact id | exact And.right | exact And.left | exact (·.1.2) | exact (·.1.1) | exact (·.1.1.1) | exact (·.1.1.2)))
    | (apply Q_fieldp TYok; (refine Ev.of rfl ?_; first | exact fun _ => ⟨⟩ | exact id | exact And.right | exact And.left | exact (·.1.2) | exact (·.1.1) | exact (·.1.1.1) | exact (·.1.1.2)); exact rfl; exact rfl; exact rfl; exact rfl; exact rfl)
    | (apply Q_field TYok; (refine Ev.of rfl ?_; first | exact fun _ => ⟨⟩ | exact id | exact And.right | exact And.left | exact (·.1.2) | exact (·.1.1) | exact (·.1.1.1) | exact (·.1.1.2)); exact rfl; exact rfl; exact rfl; exact rfl; exact rfl)
    | (apply Q_loadp TYok; exact rfl; exact rfl; (refine Ev.of rfl ?_; first | exact fun _ => ⟨⟩ | exact id | exact And.right | exact And.left | exact (·.1.2) | exact (·.1.1) | exact (·.1.1.1) | exact (·.1.1.2)); exact rfl)
    | (apply Q_load TYok; exact rfl; exact rfl; (refine Ev.of rfl ?_; first | exact fun _ => ⟨⟩ | exact id | exact And.right | exact And.left | exact (·.1.2) | exact (·.1.1) | exact (·.1.1.1) | exact (·.1.1.2)); exact rfl; exact rfl; exact rfl)
    | (apply Q_loadm TYok; exact rfl; exact rfl; (refine Ev.of rfl ?_; first | exact fun _ => ⟨⟩ | exact id | exact And.right | exact And.left | exact (·.1.2) | exact (·.1.1) | exact (·.1.1.1) | exact (·.1.1.2)); exact rfl; (intro hg; first | omega | (simp; omega) | (simp at hg; simp; omega)); exact rfl; infer_instance)
    | (apply Q_loadpa TYok; exact rfl; exact rfl; (refine Ev.of rfl ?_; first | exact fun _ => ⟨⟩ | exact id | exact And.right | exact And.left | exact (·.1.2) | exact (·.1.1) | exact (·.1.1.1) | exact (·.1.1.2)); exact rfl)
    | (apply Q_loada TYok; exact rfl; exact rfl; (refine Ev.of rfl ?_; first | exact fun _ => ⟨⟩ | exact id | exact And.right | exact And.left | exact (·.1.2) | exact (·.1.1) | exact (·.1.1.1) | exact (·.1.1.2)); exact rfl; exact rfl; exact rfl)
    | (apply Q_loadma TYok; exact rfl; exact rfl; (refine Ev.of rfl ?_; first | exact fun _ => ⟨⟩ | exact id | exact And.right | exact And.left | exact (·.1.2) | exact (·.1.1) | exact (·.1.1.1) | exact (·.1.1.2)); exact rfl; (intro hg; first | omega | (simp; omega) | (simp at hg; simp; omega)); exact rfl; infer_instance)
    | (apply Q_add; (refine Ev.of rfl ?_; first | exact fun _ => ⟨⟩ | exact id | exact And.right | exact And.left | exact (·.1.2) | exact (·.1.1) | exact (·.1.1.1) | exact (·.1.1.2)); (refine Ev.of rfl ?_; first | exact fun _ => ⟨⟩ | exact id | exact And.right | exact And.left | exact (·.1.2) | exact (·.1.1) | exact (·.1.1.1) | exact (·.1.1.2)); (first | omega | (constructor <;> omega)))
    | (apply Q_bin; (refine Ev.of rfl ?_; first | exact fun _ => ⟨⟩ | exact id | exact And.right | exact And.left | exact (·.1.2) | exact (·.1.1) | exact (·.1.1.1) | exact (·.1.1.2)); (refine Ev.of rfl ?_; first | exact fun _ => ⟨⟩ | exact id | exact And.right | exact And.left | exact (·.1.2) | exact (·.1.1) | exact (·.1.1.1) | exact (·.1.1.2)); exact rfl)
    | (apply Q_or; (refine Ev.of rfl ?_; first | exact fun _ => ⟨⟩ | exact id | exact And.right | exact And.left | exact (·.1.2) | exact (·.1.1) | exact (·.1.1.1) | exact (·.1.1.2)); (refine Ev.of rfl ?_; first | exact fun _ => ⟨⟩ | exact id | exact And.right | exact And.left | exact (·.1.2) | exact (·.1.1) | exact (·.1.1.1) | exact (·.1.1.2)))
    | (apply Q_and; (refine Ev.of rfl ?_; first | exact fun _ => ⟨⟩ | exact id | exact And.right | exact And.left | exact (·.1.2) | exact (·.1.1) | exact (·.1.1.1) | exact (·.1.1.2)); (refine Ev.of rfl ?_; first | exact fun _ => ⟨⟩ | exact id | exact And.right | exact And.left | exact (·.1.2) | exact (·.1.1) | exact (·.1.1.1) | exact (·.1.1.2)))
    | (apply Q_not; (refine Ev.of rfl ?_; first | exact fun _ => ⟨⟩ | exact id | exact And.right | exact And.left | exact (·.1.2) | exact (·.1.1) | exact (·.1.1.1) | exact (·.1.1.2)))
    | (apply Q_lenm TYok; (refine Ev.of rfl ?_; first | exact fun _ => ⟨⟩ | exact id | exact And.right | exact And.left | exact (·.1.2) | exact (·.1.1) | exact (·.1.1.1) | exact (·.1.1.2)); exact rfl; exact rfl)
    | (apply Q_lend TYok; (refine Ev.of rfl ?_; first | exact fun _ => ⟨⟩ | exact id | exact And.right | exact And.left | exact (·.1.2) | exact (·.1.1) | exact (·.1.1.1) | exact (·.1.1.2)); exact rfl; exact rfl)
    | (apply Q_lenom TYok; (refine Ev.of rfl ?_; first | exact fun _ => ⟨⟩ | exact id | exact And.right | exact And.left | exact (·.1.2) | exact (·.1.1) | exact (·.1.1.1) | exact (·.1.1.2)); exact rfl; exact rfl; exact rfl)
    | (apply Q_len TYok; (refine Ev.of rfl ?_; first | exact fun _ => ⟨⟩ | exact id | exact And.right | exact And.left | exact (·.1.2) | exact (·.1.1) | exact (·.1.1.1) | exact (·.1.1.2)); exact rfl; exact rfl; exact rfl)
    | (apply Q_len0 TYok; (refine Ev.of rfl ?_; first | exact fun _ => ⟨⟩ | exact id | exact And.right | exact And.left | exact (·.1.2) | exact (·.1.1) | exact (·.1.1.1) | exact (·.1.1.2)); exact rfl; exact rfl)
    | (apply Q_lens TYok; (refine Ev.of rfl ?_; first | exact fun _ => ⟨⟩ | exact id | exact And.right | exact And.left | exact (·.1.2) | exact (·.1.1) | exact (·.1.1.1) | exact (·.1.1.2)); exact rfl; exact rfl)
    | (apply Q_indexd TYok; (refine Ev.of rfl ?_; first | exact fun _ => ⟨⟩ | exact id | exact And.right | exact And.left | exact (·.1.2) | exact (·.1.1) | exact (·.1.1.1) | exact (·.1.1.2)); (refine Ev.of rfl ?_; first | exact fun _ => ⟨⟩ | exact id | exact And.right | exact And.left | exact (·.1.2) | exact (·.1.1) | exact (·.1.1.1) | exact (·.1.1.2)); exact rfl; exact rfl; exact rfl; (intro hg; first | exact getRowN (by first | omega | (simp at hg; omega)) | exact getRowI (by first | omega | (simp at hg; omega))); exact rfl)
    | (apply Q_index TYok; (refine Ev.of rfl ?_; first | exact fun _ => ⟨⟩ | exact id | exact And.right | exact And.left | exact (·.1.2) | exact (·.1.1) | exact (·.1.1.1) | exact (·.1.1.2)); (refine Ev.of rfl ?_; first | exact fun _ => ⟨⟩ | exact id | exact And.right | exact And.left | exact (·.1.2) | exact (·.1.1) | exact (·.1.1.1) | exact (·.1.1.2)); exact rfl; exact rfl; exact rfl; exact rfl; exact rfl; (intro hg; first | (simp; omega) | (simp at hg; simp; omega)))
    | (apply Q_binS; (refine Ev.of rfl ?_; first | exact fun _ => ⟨⟩ | exact id | exact And.right | exact And.left | exact (·.1.2) | exact (·.1.1) | exact (·.1.1.1) | exact (·.1.1.2)); (refine Ev.of rfl ?_; first | exact fun _ => ⟨⟩ | exact id | exact And.right | exact And.left | exact (·.1.2) | exact (·.1.1) | exact (·.1.1.1) | exact (·.1.1.2)); exact rfl)
    | (apply Q_binB TYok; (refine Ev.of rfl ?_; first | exact fun _ => ⟨⟩ | exact id | exact And.right | exact And.left | exact (·.1.2) | exact (·.1.1) | exact (·.1.1.1) | exact (·.1.1.2)); (refine Ev.of rfl ?_; first | exact fun _ => ⟨⟩ | exact id | exact And.right | exact And.left | exact (·.1.2) | exact (·.1.1) | exact (·.1.1.1) | exact (·.1.1.2)); exact rfl; exact rfl; exact rfl)
    | (apply Q_extract; (refine Ev.of rfl ?_; first | exact fun _ => ⟨⟩ | exact id | exact And.right | exact And.left | exact (·.1.2) | exact (·.1.1) | exact (·.1.1.1) | exact (·.1.1.2)); exact rfl)
    | (apply Q_calld (AD); focus ((repeat (first | exact EvD.nil | refine EvD.cons (by refine Ev.of rfl ?_; first | exact fun _ => ⟨⟩ | exact id | exact And.right | exact And.left | exact (·.1.2) | exact (·.1.1) | exact (·.1.1.1) | exact (·.1.1.2)) (by first | exact PSub.rfl' | exact PSub.nil' | (refine PSub.of_eq ?_; simp only [List.map_append, List.map_cons, List.map_nil, List.nil_append]; rfl)) ?_)); done))
    | (apply Q_call (S0); (repeat (first | exact EvL.nil | refine EvL.cons (by refine Ev.of rfl ?_; first | exact fun _ => ⟨⟩ | exact id | exact And.right | exact And.left | exact (·.1.2) | exact (·.1.1) | exact (·.1.1.1) | exact (·.1.1.2)) rfl (by first | exact PSub.rfl' | exact PSub.nil' | (refine PSub.of_eq ?_; simp only [List.map_append, List.map_cons, List.map_nil, List.nil_append]; rfl)) ?_)); exact rfl)
    | (apply Q_call (S1); (repeat (first | exact EvL.nil | refine EvL.cons (by refine Ev.of rfl ?_; first | exact fun _ => ⟨⟩ | exact id | exact And.right | exact And.left | exact (·.1.2) | exact (·.1.1) | exact (·.1.1.1) | exact (·.1.1.2)) rfl (by first | exact PSub.rfl' | exact PSub.nil' | (refine PSub.of_eq ?_; simp only [List.map_append, List.map_cons, List.map_nil, List.nil_append]; rfl)) ?_)); exact rfl)); exact rfl)
          | (apply S_alloc TYok; exact rfl; exact rfl; exact rfl; exact rfl)
          | (apply S_store TYok; (refine Ev.of rfl ?_; first | exact fun _ => ⟨⟩ | exact id | exact And.right | exact And.left | exact (·.1.2) | exact (·.1.1) | exact (·.1.1.1) | exact (·.1.1.2)); (refine Ev.of rfl ?_; first | exact fun _ => ⟨⟩ | exact id | exact And.right | exact And.left | exact (·.1.2) | exact (·.1.1) | exact (·.1.1.1) | exact (·.1.1.2)); exact rfl; exact rfl; exact rfl; exact rfl; exact rfl)
          | (apply S_storem TYok; (refine Ev.of rfl ?_; first | exact fun _ => ⟨⟩ | exact id | exact And.right | exact And.left | exact (·.1.2) | exact (·.1.1) | exact (·.1.1.1) | exact (·.1.1.2)); (refine Ev.of rfl ?_; first | exact fun _ => ⟨⟩ | exact id | exact And.right | exact And.left | exact (·.1.2) | exact (·.1.1) | exact (·.1.1.1) | exact (·.1.1.2)); exact rfl; exact rfl; (first | omega | (simp; omega)); exact rfl; (intro z; exact rfl))
          | (apply S_lit TYok; (repeat (first | exact EvR.nil | apply EvR.cons (by refine Ev.of rfl ?_; first | exact fun _ => ⟨⟩ | exact id | exact And.right | exact And.left | exact (·.1.2) | exact (·.1.1) | exact (·.1.1.1) | exact (·.1.1.2)))); exact rfl; exact rfl; exact rfl; exact rfl; exact rfl; exact rfl; exact rfl; exact rfl; exact rfl)
          | (apply S_append TYok; (refine Ev.of rfl ?_; first | exact fun _ => ⟨⟩ | exact id | exact And.right | exact And.left | exact (·.1.2) | exact (·.1.1) | exact (·.1.1.1) | exact (·.1.1.2)); (refine Ev.of rfl ?_; first | exact fun _ => ⟨⟩ | exact id | exact And.right | exact And.left | exact (·.1.2) | exact (·.1.1) | exact (·.1.1.1) | exact (·.1.1.2)); exact rfl; exact rfl; exact rfl; exact rfl; exact rfl; exact rfl; exact rfl; exact rfl; exact rfl; exact rfl; (constructor <;> simp <;> omega); exact rfl)
          | (apply S_append0 TYok; (refine Ev.of rfl ?_; first | exact fun _ => ⟨⟩ | exact id | exact And.right | exact And.left | exact (·.1.2) | exact (·.1.1) | exact (·.1.1.1) | exact (·.1.1.2)); (refine Ev.of rfl ?_; first | exact fun _ => ⟨⟩ | exact id | exact And.right | exact And.left | exact (·.1.2) | exact (·.1.1) | exact (·.1.1.1) | exact (·.1.1.2)); exact rfl; exact rfl; exact rfl; exact rfl; exact rfl; exact rfl; exact rfl; (constructor <;> simp <;> omega); exact rfl; exact rfl)
          | (apply S_appendd TYok; (refine Ev.of rfl ?_; first | exact fun _ => ⟨⟩ | exact id | exact And.right | exact And.left | exact (·.1.2) | exact (·.1.1) | exact (·.1.1.1) | exact (·.1.1.2)); (refine Ev.of rfl ?_; first | exact fun _ => ⟨⟩ | exact id | exact And.right | exact And.left | exact (·.1.2) | exact (·.1.1) | exact (·.1.1.1) | exact (·.1.1.2)); exact rfl; exact rfl; exact rfl; exact rfl; exact rfl; exact rfl; exact rfl; exact rfl; (intro r hr; obtain ⟨_, _, rfl⟩ := List.mem_map.1 hr; rfl); (constructor <;> simp <;> omega); exact rfl)
          | (apply S_box; (refine Ev.of rfl ?_; first | exact fun _ => ⟨⟩ | exact id | exact And.right | exact And.left | exact (·.1.2) | exact (·.1.1) | exact (·.1.1.1) | exact (·.1.1.2)); exact rfl; exact rfl; exact rfl)
          | (apply S_isnil TYok; exact rfl; exact rfl; exact rfl; (refine Ev.of rfl ?_; first | exact fun _ => ⟨⟩ | exact id | exact And.right | exact And.left | exact (·.1.2) | exact (·.1.1) | exact (·.1.1.1) | exact (·.1.1.2)); intro bn hnil)
          | (apply RG.gT; exact rfl; exact rfl; (first | assumption | decide))
          | (apply RG.gF; exact rfl; exact rfl; (first | assumption | decide); exact rfl)
          | (refine W.cond (by refine Ev.of rfl ?_; first | exact fun _ => ⟨⟩ | exact id | exact And.right | exact And.left | exact (·.1.2) | exact (·.1.1) | exact (·.1.1.1) | exact (·.1.1.2)) (fun hb => ?_) (fun hb => ?_) <;> (try simp at hb) <;> (try (exfalso; omega))))
        all_goals exact Fin.retB rfl rfl
      | true =>
        obtain ⟨k1, k2, L1, L2⟩ := reports_law (d := d) hk a1 a2 a4 a5 a6
        obtain ⟨z0, e0⟩ : ∃ z, sizeF b fs i d = (z, 0) := ⟨_, sizeF_ok hk⟩
        obtain ⟨z1, e1⟩ : ∃ z, sizeF b (fs ++ [x]) i d = (z, 0) := ⟨_, sizeF_ok k1⟩
        obtain ⟨z3, e3⟩ : ∃ z, sizeF b (fs.map (updF x)) i d = (z, 0) := ⟨_, sizeF_ok k2⟩
        rw [e0] at S0
        rw [e1] at S1
        rw [e3] at S3
        rw [e0, e1] at L1
        rw [e0, e1, e3] at L2
        simp only [Prod.mk.injEq, and_true] at L1 L2
        clear k1 k2 e0 e1 e3 ha a5
        generalize fs ++ [x] = M at *
        repeat' (first
          | apply RG.nil
          | apply Lex.nil
          | apply Then.n
          | apply Then.r
          | apply Then.x
          | apply InBlock.n
          | apply InBlock.r
          | apply InBlock.hit
          | (apply InBlock.miss; exact rfl)
          | apply W.seq
          | apply W.region
          | apply W.block
          | apply W.skip
          | apply W.ret
          | apply W.exit
          | (refine W.drawA (id := 2) (L := [false, false, false, false, false, false, false, false, false]) mixed rfl ?_)
          | exact RAll.nil
          | (refine RAll.cons rfl ?_ ?_)
          | (refine RA.step (L := [false, false, false, false, false, false, false, false, false]) (i := 0) (is := [1, 2, 4]) (by kernel_rfl) ?_)
          | (refine RA.step (L := [false, false, false, false, true, false, false, false, false]) (i := 0) (is := [1, 2, 5]) (by kernel_rfl) ?_)
          | (refine RA.step (L := [false, false, false, false, true, true, false, false, false]) (i := 0) (is := [1, 2]) (by kernel_rfl) ?_)
          | (refine RA.step (L := [false, false, true, false, true, true, false, false, false]) (i := 0) (is := [1]) (by kernel_rfl) ?_)
          | (refine RA.step (L := [false, true, true, false, true, true, false, false, false]) (i := 0) (is := [3]) (by kernel_rfl) ?_)
          | (refine RA.step (L := [false, true, true, true, true, true, false, false, false]) (i := 0) (is := [6]) (by kernel_rfl) ?_)
          | (refine RA.step (L := [false, true, true, true, true, true, true, false, false]) (i := 0) (is := []) (by kernel_rfl) ?_)
          | (refine RA.step (L := [true, true, true, true, true, true, true, false, false]) (i := 7) (is := []) (by kernel_rfl) ?_)
          | (refine RA.step (L := [true, true, true, true, true, true, true, true, false]) (i := 8) (is := []) (by kernel_rfl) ?_)
          | (refine RA.done (L := [true, true, true, true, true, true, true, true, true]) (by kernel_rfl) ?_)
          | (refine RA.step (L := [true, true, true, true, true, true, false, false, false]) (i := 6) (is := []) (by kernel_rfl) ?_)
          | (refine RA.step (L := [true, true, true, false, true, true, false, false, false]) (i := 3) (is := []) (by kernel_rfl) ?_)
          | (refine RA.step (L := [true, false, true, false, true, true, false, false, false]) (i := 1) (is := []) (by kernel_rfl) ?_)
          | (refine RA.step (L := [false, true, false, false, true, true, false, false, false]) (i := 0) (is := [2]) (by kernel_rfl) ?_)
          | (refine RA.step (L := [true, true, false, false, true, true, false, false, false]) (i := 2) (is := []) (by kernel_rfl) ?_)
          | (refine RA.step (L := [true, false, false, false, true, true, false, false, false]) (i := 1) (is := [2]) (by kernel_rfl) ?_)
          | (refine RA.step (L := [false, false, true, false, true, false, false, false, false]) (i := 0) (is := [1, 5]) (by kernel_rfl) ?_)
          | (refine RA.step (L := [false, true, true, false, true, false, false, false, false]) (i := 0) (is := [3, 5]) (by kernel_rfl) ?_)
          | (refine RA.step (L := [false, true, true, true, true, false, false, false, false]) (i := 0) (is := [5]) (by kernel_rfl) ?_)
          | (refine RA.step (L := [true, true, true, true, true, false, false, false, false]) (i := 5) (is := []) (by kernel_rfl) ?_)
          | (refine RA.step (L := [true, true, true, false, true, false, false, false, false]) (i := 3) (is := [5]) (by kernel_rfl) ?_)
          | (refine RA.step (L := [true, false, true, false, true, false, false, false, false]) (i := 1) (is := [5]) (by kernel_rfl) ?_)
          | (refine RA.step (L := [false, true, false, false, true, false, false, false, false]) (i := 0) (is := [2, 5]) (by kernel_rfl) ?_)
          | (refine RA.step (L := [true, true, false, false, true, false, false, false, false]) (i := 2) (is := [5]) (by kernel_rfl) ?_)
          | (refine RA.step (L := [true, false, false, false, true, false, false, false, false]) (i := 1) (is := [2, 5]) (by kernel_rfl) ?_)
          | (refine RA.step (L := [false, false, true, false, false, false, false, false, false]) (i := 0) (is := [1, 4]) (by kernel_rfl) ?_)
          | (refine RA.step (L := [false, true, true, false, false, false, false, false, false]) (i := 0) (is := [3, 4]) (by kernel_rfl) ?_)
          | (refine RA.step (L := [false, true, true, true, false, false, false, false, false]) (i := 0) (is := [4]) (by kernel_rfl) ?_)
          | (refine RA.step (L := [true, true, true, true, false, false, false, false, false]) (i := 4) (is := []) (by kernel_rfl) ?_)
          | (refine RA.step (L := [true, true, true, false, false, false, false, false, false]) (i := 3) (is := [4]) (by kernel_rfl) ?_)
          | (refine RA.step (L := [true, false, true, false, false, false, false, false, false]) (i := 1) (is := [4]) (by kernel_rfl) ?_)
          | (refine RA.step (L := [false, true, false, false, false, false, false, false, false]) (i := 0) (is := [2, 4]) (by kernel_rfl) ?_)
          | (refine RA.step (L := [true, true, false, false, false, false, false, false, false]) (i := 2) (is := [4]) (by kernel_rfl) ?_)
          | (refine RA.step (L := [true, false, false, false, false, false, false, false, false]) (i := 1) (is := [2, 4]) (by kernel_rfl) ?_)
          | ((first | apply U_ | (apply Ug_; exact rfl; exact rfl) | (apply Ugq_; exact rfl; exact rfl)); (first
    | (apply Q_move; (refine Ev.of rfl ?_; first | exact fun _ => ⟨⟩ | exact id | exact And.right | exact And.left | exact (·.1.2) | exact (·.1.1) | exact (·.1.1.1) | exact (·.1.1.2)))
    | (apply Q_assign; (refine Ev.of rfl ?_; first | exact fun _ => ⟨⟩ | exact id | exact And.right | exact And.left | exact (·.1.2) | exact (·.1.1) | exact (·.1.1.1) | exact (·.1.1.2)))
    | (apply Q_fieldp TYok; (refine Ev.of rfl ?_; first | exact fun _ => ⟨⟩ | exact id | exact And.right | exact And.left | exact (·.1.2) | exact (·.1.1) | exact (·.1.1.1) | exact (·.1.1.2)); exact rfl; exact rfl; exact rfl; exact rfl; exact rfl)
    | (apply Q_field TYok; (refine Ev.of rfl ?_; first | exact fun _ => ⟨⟩ | exact id | exact And.right | exact And.left | exact (·.1.2) | exact (·.1.1) | exact (·.1.1.1) | exact (·.1.1.2)); exact rfl; exact rfl; exact rfl; exact rfl; exact rfl)
    | (apply Q_loadp TYok; exact rfl; exact rfl; (refine Ev.of rfl ?_; first | exact fun _ => ⟨⟩ | exact id | exact And.right | exact And.left | exact (·.1.2) | exact (·.1.1) | exact (·.1.1.1) | exact (·.1.1.2)); exact rfl)
    | (apply Q_load TYok; exact rfl; exact rfl; (refine Ev.of rfl ?_; first | exact fun _ => ⟨⟩ | exact id | exact And.right | exact And.left | exact (·.1.2) | exact (·.1.1) | exact (·.1.1.1) | exact (·.1.1.2)); exact rfl; exact rfl; exact rfl)
    | (apply Q_loadm TYok; exact rfl; exact rfl; (refine Ev.of rfl ?_; first | exact fun _ => ⟨⟩ | exact id | exact And.right | exact And.left | exact (·.1.2) | exact (·.1.1) | exact (·.1.1.1) | exact (·.1.1.2)); exact rfl; (intro hg; first | omega | (simp; omega) | (simp at hg; simp; omega)); exact rfl; infer_instance)
    | (apply Q_loadpa TYok; exact rfl; exact rfl; (refine Ev.of rfl ?_; first | exact fun _ => ⟨⟩ | exact id | exact And.right | exact And.left | exact (·.1.2) | exact (·.1.1) | exact (·.1.1.1) | exact (·.1.1.2)); exact rfl)
    | (apply Q_loada TYok; exact rfl; exact rfl; (refine Ev.of rfl ?_; first | exact fun _ => ⟨⟩ | exact id | exact And.right | exact And.left | exact (·.1.2) | exact (·.1.1) | exact (·.1.1.1) | exact (·.1.1.2)); exact rfl; exact rfl; exact rfl)
    | (apply Q_loadma TYok; exact rfl; exact rfl; (refine Ev.of rfl ?_; first | exact fun _ => ⟨⟩ | exact id | exact And.right | exact And.left | exact (·.1.2) | exact (·.1.1) | exact (·.1.1.1) | exact (·.1.1.2)); exact rfl; (intro hg; first | omega | (simp; omega) | (simp at hg; simp; omega)); exact rfl; infer_instance)
    | (apply Q_add; (refine Ev.of rfl ?_; first | exact fun _ => ⟨⟩ | exact id | exact And.right | exact And.left | exact (·.1.2) | exact (·.1.1) | exact (·.1.1.1) | exact (·.1.1.2)); (refine Ev.of rfl ?_; first | exact fun _ => ⟨⟩ | exact id | exact And.right | exact And.left | exact (·.1.2) | exact (·.1.1) | exact (·.1.1.1) | exact (·.1.1.2)); (first | omega | (constructor <;> omega)))
    | (apply Q_bin; (refine Ev.of rfl ?_; first | exact fun _ => ⟨⟩ | exact id | exact And.right | exact And.left | exact (·.1.2) | exact (·.1.1) | exact (·.1.1.1) | exact (·.1.1.2)); (refine Ev.of rfl ?_; first | exact fun _ => ⟨⟩ | exact id | exact And.right | exact And.left | exact (·.1.2) | exact (·.1.1) | exact (·.1.1.1) | exact (·.1.1.2)); exact rfl)
    | (apply Q_or; (refine Ev.of rfl ?_; first | exact fun _ => ⟨⟩ | exact id | exact And.right | exact And.left | exact (·.1.2) | exact (·.1.1) | exact (·.1.1.1) | exact (·.1.1.2)); (refine Ev.of rfl ?_; first | exact fun _ => ⟨⟩ | exact id | exact And.right | exact And.left | exact (·.1.2) | exact (·.1.1) | exact (·.1.1.1) | exact (·.1.1.2)))
    | (apply Q_and; (refine Ev.of rfl ?_; first | exact fun _ => ⟨⟩ | exact id | exact And.right | exact And.left | exact (·.1.2) | exact (·.1.1) | exact (·.1.1.1) | exact (·.1.1.2)); (refine Ev.of rfl ?_; first | exact fun _ => ⟨⟩ | exact id | exact And.right | exact And.left | exact (·.1.2) | exact (·.1.1) | exact (·.1.1.1) | exact (·.1.1.2)))
    | (apply Q_not; (refine Ev.of rfl ?_; first | exact fun _ => ⟨⟩ | exact id | exact And.right | exact And.left | exact (·.1.2) | exact (·.1.1) | exact (·.1.1.1) | exact (·.1.1.2)))
    | (apply Q_lenm TYok; (refine Ev.of rfl ?_; first | exact fun _ => ⟨⟩ | exact id | exact And.right | exact And.left | exact (·.1.2) | exact (·.1.1) | exact (·.1.1.1) | exact (·.1.1.2)); exact rfl; exact rfl)
    | (apply Q_lend TYok; (refine Ev.of rfl ?_; first | exact fun _ => ⟨⟩ | exact id | exact And.right | exact And.left | exact (·.1.2) | exact (·.1.1) | exact (·.1.1.1) | exact (·.1.1.2)); exact rfl; exact rfl)
    | (apply Q_lenom TYok; (refine Ev.of rfl ?_; first | exact fun _ => ⟨⟩ | exact id | exact And.right | exact And.left | exact (·.1.2) | exact (·.1.1) | exact (·.1.1.1) | exact (·.1.1.2)); exact rfl; exact rfl; exact rfl)
    | (apply Q_len TYok; (refine Ev.of rfl ?_; first | exact fun _ => ⟨⟩ | exact id | exact And.right | exact And.left | exact (·.1.2) | exact (·.1.1) | exact (·.1.1.1) | exact (·.1.1.2)); exact rfl; exact rfl; exact rfl)
    | (apply Q_len0 TYok; (refine Ev.of rfl ?_; first | exact fun _ => ⟨⟩ | exact id | exact And.right | exact And.left | exact (·.1.2) | exact (·.1.1) | exact (·.1.1.1) | exact (·.1.1.2)); exact rfl; exact rfl)
    | (apply Q_lens TYok; (refine Ev.of rfl ?_; first | exact fun _ => ⟨⟩ | exact id | exact And.right | exact And.left | exact (·.1.2) | exact (·.1.1) | exact (·.1.1.1) | exact (·.1.1.2)); exact rfl; exact rfl)
    | (apply Q_indexd TYok; (refine Ev.of rfl ?_; first | exact fun _ => ⟨⟩ | exact id | exact And.right | exact And.left | exact (·.1.2) | exact (·.1.1) | exact (·.1.1.1) | exact (·.1.1.2)); (refine Ev.of rfl ?_; first | exact fun _ => ⟨⟩ | exact id | exact And.right | exact And.left | exact (·.1.2) | exact (·.1.1) | exact (·.1.1.1) | exact (·.1.1.2)); exact rfl; exact rfl; exact rfl; (intro hg; first | exact getRowN (by first | omega | (simp at hg; omega)) | exact getRowI (by first | omega | (simp at hg; omega))); exact rfl)
    | (apply Q_index TYok; (refine Ev.of rfl ?_; first | exact fun _ => ⟨⟩ | exact id | exact And.right | exact And.left | exact (·.1.2) | exact (·.1.1) | exact (·.1.1.1) | exact (·.1.1.2)); (refine Ev.of rfl ?_; first | exact fun _ => ⟨⟩ | exact id | exact And.right | exact And.left | exact (·.1.2) | exact (·.1.1) | exact (·.1.1.1) | exact (·.1.1.2)); exact rfl; exact rfl; exact rfl; exact rfl; exact rfl; (intro hg; first | (simp; omega) | (simp at hg; simp; omega)))
    | (apply Q_binS; (refine Ev.of rfl ?_; first | exact fun _ => ⟨⟩ | exact id | exact And.right | exact And.left | exact (·.1.2) | exact (·.1.1) | exact (·.1.1.1) | exact (·.1.1.2)); (refine Ev.of rfl ?_; first | exact fun _ => ⟨⟩ | exact id | exact And.right | exact And.left | exact (·.1.2) | exact (·.1.1) | exact (·.1.1.1) | exact (·.1.1.2)); exact rfl)
    | (apply Q_binB TYok; (refine Ev.of rfl ?_; first | exact fun _ => ⟨⟩ | exact id | exact And.right | exact And.left | exact (·.1.2) | exact (·.1.1) | exact (·.1.1.1) | exact (·.1.1.2)); (refine Ev.of rfl ?_; first | exact fun _ => ⟨⟩ | exact id | exact And.right | exact And.left | exact (·.1.2) | exact (·.1.1) | exact (·.1.1.1) | exact (·.1.1.2)); exact rfl; exact rfl; exact rfl)
    | (apply Q_extract; (refine Ev.of rfl ?_; first | exact fun _ => ⟨⟩ | exact id | exact And.right | exact And.left | exact (·.1.2) | exact (·.1.1) | exact (·.1.1.1) | exact (·.1.1.2)); exact rfl)
    | (apply Q_calld (AD); focus ((repeat (first | exact EvD.nil | refine EvD.cons (by refine Ev.of rfl ?_; first | exact fun _ => ⟨⟩ | exact id | exact And.right | exact And.left | exact (·.1.2) | exact (·.1.1) | exact (·.1.1.1) | exact (·.1.1.2)) (by first | exact PSub.rfl' | exact PSub.nil' | (refine PSub.of_eq ?_; simp only [List.map_append, List.map_cons, List.map_nil, List.nil_append]; rfl)) ?_)); done))
    | (apply Q_call (S0); (repeat (first | exact EvL.nil | refine EvL.cons (by refine Ev.of rfl ?_; first | exact fun _ => ⟨⟩ | exact id | exact And.right | exact And.left | exact (·.1.2) | exact (·.1.1) | exact (·.1.1.1) | exact (·.1.1.2)) rfl (by first | exact PSub.rfl' | exact PSub.nil' | (refine PSub.of_eq ?_; simp only [List.map_append, List.map_cons, List.map_nil, List.nil_append]; rfl)) ?_)); exact rfl)
    | (apply Q_call (S1); (repeat (first | exact EvL.nil | refine EvL.cons (by refine Ev.of rfl ?_; first | exact fun _ => ⟨⟩ | exact id | exact And.right | exact And.left | exact (·.1.2) | exact (·.1.1) | exact (·.1.1.1) | exact (·.1.1.2)) rfl (by first | exact PSub.rfl' | exact PSub.nil' | (refine PSub.of_eq ?_; simp only [List.map_append, List.map_cons, List.map_nil, List.nil_append]; rfl)) ?_)); exact rfl)); exact rfl)
          | (apply S_alloc TYok; exact rfl; exact rfl; exact rfl; exact rfl)
          | (apply S_store TYok; (refine Ev.of rfl ?_; first | exact fun _ => ⟨⟩ | exact id | exact And.right | exact And.left | exact (·.1.2) | exact (·.1.1) | exact (·.1.1.1) | exact (·.1.1.2)); (refine Ev.of rfl ?_; first | exact fun _ => ⟨⟩ | exact id | exact And.right | exact And.left | exact (·.1.2) | exact (·.1.1) | exact (·.1.1.1) | exact (·.1.1.2)); exact rfl; exact rfl; exact rfl; exact rfl; exact rfl)
          | (apply S_storem TYok; (refine Ev.of rfl ?_; first | exact fun _ => ⟨⟩ | exact id | exact And.right | exact And.left | exact (·.1.2) | exact (·.1.1) | exact (·.1.1.1) | exact (·.1.1.2)); (refine Ev.of rfl ?_; first | exact fun _ => ⟨⟩ | exact id | exact And.right | exact And.left | exact (·.1.2) | exact (·.1.1) | exact (·.1.1.1) | exact (·.1.1.2)); exact rfl; exact rfl; (first | omega | (simp; omega)); exact rfl; (intro z; exact rfl))
          | (apply S_lit TYok; (repeat (first | exact EvR.nil | apply EvR.cons (by refine Ev.of rfl ?_; first | exact fun _ => ⟨⟩ | exact id | exact And.right | exact And.left | exact (·.1.2) | exact (·.1.1) | exact (·.1.1.1) | exact (·.1.1.2)))); exact rfl; exact rfl; exact rfl; exact rfl; exact rfl; exact rfl; exact rfl; exact rfl; exact rfl)
          | (apply S_append TYok; (refine Ev.of rfl ?_; first | exact fun _ => ⟨⟩ | exact id | exact And.right | exact And.left | exact (·.1.2) | exact (·.1.1) | exact (·.1.1.1) | exact (·.1.1.2)); (refine Ev.of rfl ?_; first | exact fun _ => ⟨⟩ | exact id | exact And.right | exact And.left | exact (·.1.2) | exact (·.1.1) | exact (·.1.1.1) | exact (·.1.1.2)); exact rfl; exact rfl; exact rfl; exact rfl; exact rfl; exact rfl; exact rfl; exact rfl; exact rfl; exact rfl; (constructor <;> simp <;> omega); exact rfl)
          | (apply S_append0 TYok; (refine Ev.of rfl ?_; first | exact fun _ => ⟨⟩ | exact id | exact And.right | exact And.left | exact (·.1.2) | exact (·.1.1) | exact (·.1.1.1) | exact (·.1.1.2)); (refine Ev.of rfl ?_; first | exact fun _ => ⟨⟩ | exact id | exact And.right | exact And.left | exact (·.1.2) | exact (·.1.1) | exact (·.1.1.1) | exact (·.1.1.2)); exact rfl; exact rfl; exact rfl; exact rfl; exact rfl; exact rfl; exact rfl; (constructor <;> simp <;> omega); exact rfl; exact rfl)
          | (apply S_appendd TYok; (refine Ev.of rfl ?_; first | exact fun _ => ⟨⟩ | exact id | exact And.right | exact And.left | exact (·.1.2) | exact (·.1.1) | exact (·.1.1.1) | exact (·.1.1.2)); (refine Ev.of rfl ?_; first | exact fun _ => ⟨⟩ | exact id | exact And.right | exact And.left | exact (·.1.2) | exact (·.1.1) | exact (·.1.1.1) | exact (·.1.1.2)); exact rfl; exact rfl; exact rfl; exact rfl; exact rfl; exact rfl; exact rfl; exact rfl; (intro r hr; obtain ⟨_, _, rfl⟩ := List.mem_map.1 hr; rfl); (constructor <;> simp <;> omega); exact rfl)
          | (apply S_box; (refine Ev.of rfl ?_; first | exact fun _ => ⟨⟩ | exact id | exact And.right | exact And.left | exact (·.1.2) | exact (·.1.1) | exact (·.1.1.1) | exact (·.1.1.2)); exact rfl; exact rfl; exact rfl)
          | (apply S_isnil TYok; exact rfl; exact rfl; exact rfl; (refine Ev.of rfl ?_; first | exact fun _ => ⟨⟩ | exact id | exact And.right | exact And.left | exact (·.1.2) | exact (·.1.1) | exact (·.1.1.1) | exact (·.1.1.2)); intro bn hnil)
          | (apply RG.gT; exact rfl; exact rfl; (first | assumption | decide))
          | (apply RG.gF; exact rfl; exact rfl; (first | assumption | decide); exact rfl)
          | (refine W.cond (by refine Ev.of rfl ?_; first | exact fun _ => ⟨⟩ | exact id | exact And.right | exact And.left | exact (·.1.2) | exact (·.1.1) | exact (·.1.1.1) | exact (·.1.1.2)) (fun hb => ?_) (fun hb => ?_) <;> (try simp at hb) <;> (try (exfalso; omega))))
        · have : aboutF b x i d = false := by
            rcases hb with (hb | hb) | hb
            · simp [aboutF, hb]
            · simp [aboutF, hb]
            · simp [aboutF, show ¬ x.day ≤ d by omega]
          exact Fin.retB rfl (by simp [L1 this])
        have hab : aboutF b x i d = true := by simp [aboutF, hb]
        obtain ⟨L3, L4⟩ := L2 hab
        apply W.loopP (σ := Nat) 163 [1, 3, 4, 5, 7, 11, 14, 16] (fun k => k ≤ fs.length) (fun k => [(19, vS 19), (20, vB ((fs.take k).any fun y => sameAs y x)), (21, vI k)]) (fun k => [(5, ⟨23, 4, [encB b]⟩), (7, ⟨46, 5, [encF x]⟩), (19, ⟨46, 5, ((fs.take k).map (updF x)).map encF⟩)]) (fun k => fs.length - k) (0)
        case hp => repeat (first | exact Pick.nil | apply Pick.cons rfl)
        case h0 =>
          refine ⟨by simp, ?_⟩
          refine Le.trans (Le.nilOwn (t := 19) (n := 19) (E := 46) (sz := 5) rfl) ?_
          refine Le.mkR rfl rfl ?_ ?_ ?_ rfl
          · repeat (first | exact SubR.nil | apply SubR.p rfl (by first | rfl | (simp; done) | (congr 3; omega) | (congr 3; simp; omega)) | apply SubR.s rfl rfl rfl | apply SubR.a rfl rfl rfl | apply SubR.t rfl rfl | apply SubR.m rfl rfl rfl | apply SubR.i rfl rfl rfl rfl rfl)
          · repeat (first | exact SubR.nil | apply SubR.p rfl (by first | rfl | (simp; done) | (congr 3; omega) | (congr 3; simp; omega)) | apply SubR.s rfl rfl rfl | apply SubR.a rfl rfl rfl | apply SubR.t rfl rfl | apply SubR.m rfl rfl rfl | apply SubR.i rfl rfl rfl rfl rfl)
          · repeat (first | exact SubBR.nil | apply SubBR.cons rfl (by first | rfl | (simp only [List.map_append, List.map_replicate, List.map_cons, List.map_nil]; rfl) | (simp only [List.map_append, List.map_cons, List.map_nil, List.append_assoc, List.cons_append, List.nil_append]; rfl) | (simp; done)))
        case round =>
          rintro k h1
          apply W.norm (by repeat (first | exact App.nil | apply App.cons))
          by_cases hkk : k < fs.length
          · have e1 : (fs.take (k + 1)).map (updF x) = (fs.take k).map (updF x) ++ [updF x (nth fs k)] := by rw [take_nth hkk]; simp
            have e2 : ((fs.take (k + 1)).any fun y => sameAs y x) = (((fs.take k).any fun y => sameAs y x) || sameAs (nth fs k) x) := any_take hkk
            have l1 : ((fs.take k).map (updF x)).length ≤ 29 := by simp; omega
            generalize (fs.take k).map (updF x) = U at *
            generalize ((fs.take k).any fun y => sameAs y x) = t at *
            repeat' (first
              | apply RG.nil
              | apply Lex.nil
              | apply Then.n
              | apply Then.r
              | apply Then.x
              | apply InBlock.n
              | apply InBlock.r
              | apply InBlock.hit
              | (apply InBlock.miss; exact rfl)
              | apply W.seq
              | apply W.region
              | apply W.block
              | apply W.skip
              | apply W.ret
              | apply W.exit
              | (refine W.drawA (id := 2) (L := [false, false, false, false, false, false, false, false, false]) mixed rfl ?_)
              | exact RAll.nil
              | (refine RAll.cons rfl ?_ ?_)
              | (refine RA.step (L := [false, false, false, false, false, false, false, false, false]) (i := 0) (is := [1, 2, 4]) (by kernel_rfl) ?_)
              | (refine RA.step (L := [false, false, false, false, true, false, false, false, false]) (i := 0) (is := [1, 2, 5]) (by kernel_rfl) ?_)
              | (refine RA.step (L := [false, false, false, false, true, true, false, false, false]) (i := 0) (is := [1, 2]) (by kernel_rfl) ?_)
              | (refine RA.step (L := [false, false, true, false, true, true, false, false, false]) (i := 0) (is := [1]) (by kernel_rfl) ?_)
              | (refine RA.step (L := [false, true, true, false, true, true, false, false, false]) (i := 0) (is := [3]) (by kernel_rfl) ?_)
              | (refine RA.step (L := [false, true, true, true, true, true, false, false, false]) (i := 0) (is := [6]) (by kernel_rfl) ?_)
              | (refine RA.step (L := [false, true, true, true, true, true, true, false, false]) (i := 0) (is := []) (by kernel_rfl) ?_)
              | (refine RA.step (L := [true, true, true, true, true, true, true, false, false]) (i := 7) (is := []) (by kernel_rfl) ?_)
              | (refine RA.step (L := [true, true, true, true, true, true, true, true, false]) (i := 8) (is := []) (by kernel_rfl) ?_)
              | (refine RA.done (L := [true, true, true, true, true, true, true, true, true]) (by kernel_rfl) ?_)
              | (refine RA.step (L := [true, true, true, true, true, true, false, false, false]) (i := 6) (is := []) (by kernel_rfl) ?_)
              | (refine RA.step (L := [true, true, true, false, true, true, false, false, false]) (i := 3) (is := []) (by kernel_rfl) ?_)
              | (refine RA.step (L := [true, false, true, false, true, true, false, false, false]) (i := 1) (is := []) (by kernel_rfl) ?_)
              | (refine RA.step (L := [false, true, false, false, true, true, false, false, false]) (i := 0) (is := [2]) (by kernel_rfl) ?_)
              | (refine RA.step (L := [true, true, false, false, true, true, false, false, false]) (i := 2) (is := []) (by kernel_rfl) ?_)
              | (refine RA.step (L := [true, false, false, false, true, true, false, false, false]) (i := 1) (is := [2]) (by kernel_rfl) ?_)
              | (refine RA.step (L := [false, false, true, false, true, false, false, false, false]) (i := 0) (is := [1, 5]) (by kernel_rfl) ?_)
              | (refine RA.step (L := [false, true, true, false, true, false, false, false, false]) (i := 0) (is := [3, 5]) (by kernel_rfl) ?_)
              | (refine RA.step (L := [false, true, true, true, true, false, false, false, false]) (i := 0) (is := [5]) (by kernel_rfl) ?_)
              | (refine RA.step (L := [true, true, true, true, true, false, false, false, false]) (i := 5) (is := []) (by kernel_rfl) ?_)
              | (refine RA.step (L := [true, true, true, false, true, false, false, false, false]) (i := 3) (is := [5]) (by kernel_rfl) ?_)
              | (refine RA.step (L := [true, false, true, false, true, false, false, false, false]) (i := 1) (is := [5]) (by kernel_rfl) ?_)
              | (refine RA.step (L := [false, true, false, false, true, false, false, false, false]) (i := 0) (is := [2, 5]) (by kernel_rfl) ?_)
              | (refine RA.step (L := [true, true, false, false, true, false, false, false, false]) (i := 2) (is := [5]) (by kernel_rfl) ?_)
              | (refine RA.step (L := [true, false, false, false, true, false, false, false, false]) (i := 1) (is := [2, 5]) (by kernel_rfl) ?_)
              | (refine RA.step (L := [false, false, true, false, false, false, false, false, false]) (i := 0) (is := [1, 4]) (by kernel_rfl) ?_)
              | (refine RA.step (L := [false, true, true, false, false, false, false, false, false]) (i := 0) (is := [3, 4]) (by kernel_rfl) ?_)
              | (refine RA.step (L := [false, true, true, true, false, false, false, false, false]) (i := 0) (is := [4]) (by kernel_rfl) ?_)
              | (refine RA.step (L := [true, true, true, true, false, false, false, false, false]) (i := 4) (is := []) (by kernel_rfl) ?_)
              | (refine RA.step (L := [true, true, true, false, false, false, false, false, false]) (i := 3) (is := [4]) (by kernel_rfl) ?_)
              | (refine RA.step (L := [true, false, true, false, false, false, false, false, false]) (i := 1) (is := [4]) (by kernel_rfl) ?_)
              | (refine RA.step (L := [false, true, false, false, false, false, false, false, false]) (i := 0) (is := [2, 4]) (by kernel_rfl) ?_)
              | (refine RA.step (L := [true, true, false, false, false, false, false, false, false]) (i := 2) (is := [4]) (by kernel_rfl) ?_)
              | (refine RA.step (L := [true, false, false, false, false, false, false, false, false]) (i := 1) (is := [2, 4]) (by kernel_rfl) ?_)
              | ((first | apply U_ | (apply Ug_; exact rfl; exact rfl) | (apply Ugq_; exact rfl; exact rfl)); (first
    | (apply Q_move; (refine Ev.of rfl ?_; first | exact fun _ => ⟨⟩ | exact id | exact And.right | exact And.left | exact (·.1.2) | exact (·.1.1) | exact (·.1.1.1) | exact (·.1.1.2)))
    | (apply Q_assign; (refine Ev.of rfl ?_; first | exact fun _ => ⟨⟩ | exact id | exact And.right | exact And.left | exact (·.1.2) | exact (·.1.1) | exact (·.1.1.1) | exact (·.1.1.2)))
    | (apply Q_fieldp TYok; (refine Ev.of rfl ?_; first | exact fun _ => ⟨⟩ | exact id | exact And.right | exact And.left | exact (·.1.2) | exact (·.1.1) | exact (·.1.1.1) | exact (·.1.1.2)); exact rfl; exact rfl; exact rfl; exact rfl; exact rfl)
    | (apply Q_field TYok; (refine Ev.of rfl ?_; first | exact fun _ => ⟨⟩ | exact id | exact And.right | exact And.left | exact (·.1.2) | exact (·.1.1) | exact (·.1.1.1) | exact (·.1.1.2)); exact rfl; exact rfl; exact rfl; exact rfl; exact rfl)
    | (apply Q_loadp TYok; exact rfl; exact rfl; (refine Ev.of rfl ?_; first | exact fun _ => ⟨⟩ | exact id | exact And.right | exact And.left | exact (·.1.2) | exact (·.1.1) | exact (·.1.1.1) | exact (·.1.1.2)); exact rfl)
    | (apply Q_load TYok; exact rfl; exact rfl; (refine Ev.of rfl ?_; first | exact fun _ => ⟨⟩ | exact id | exact And.right | exact And.left | exact (·.1.2) | exact (·.1.1) | exact (·.1.1.1) | exact (·.1.1.2)); exact rfl; exact rfl; exact rfl)
    | (apply Q_loadm TYok; exact rfl; exact rfl; (refine Ev.of rfl ?_; first | exact fun _ => ⟨⟩ | exact id | exact And.right | exact And.left | exact (·.1.2) | exact (·.1.1) | exact (·.1.1.1) | exact (·.1.1.2)); exact rfl; (intro hg; first | omega | (simp; omega) | (simp at hg; simp; omega)); exact rfl; infer_instance)
    | (apply Q_loadpa TYok; exact rfl; exact rfl; (refine Ev.of rfl ?_; first | exact fun _ => ⟨⟩ | exact id | exact And.right | exact And.left | exact (·.1.2) | exact (·.1.1) | exact (·.1.1.1) | exact (·.1.1.2)); exact rfl)
    | (apply Q_loada TYok; exact rfl; exact rfl; (refine Ev.of rfl ?_; first | exact fun _ => ⟨⟩ | exact id | exact And.right | exact And.left | exact (·.1.2) | exact (·.1.1) | exact (·.1.1.1) | exact (·.1.1.2)); exact rfl; exact rfl; exact rfl)
    | (apply Q_loadma TYok; exact rfl; exact rfl; (refine Ev.of rfl ?_; first | exact fun _ => ⟨⟩ | exact id | exact And.right | exact And.left | exact (·.1.2) | exact (·.1.1) | exact (·.1.1.1) | exact (·.1.1.2)); exact rfl; (intro hg; first | omega | (simp; omega) | (simp at hg; simp; omega)); exact rfl; infer_instance)
    | (apply Q_add; (refine Ev.of rfl ?_; first | exact fun _ => ⟨⟩ | exact id | exact And.right | exact And.left | exact (·.1.2) | exact (·.1.1) | exact (·.1.1.1) | exact (·.1.1.2)); (refine Ev.of rfl ?_; first | exact fun _ => ⟨⟩ | exact id | exact And.right | exact And.left | exact (·.1.2) | exact (·.1.1) | exact (·.1.1.1) | exact (·.1.1.2)); (first | omega | (constructor <;> omega)))
    | (apply Q_bin; (refine Ev.of rfl ?_; first | exact fun _ => ⟨⟩ | exact id | exact And.right | exact And.left | exact (·.1.2) | exact (·.1.1) | exact (·.1.1.1) | exact (·.1.1.2)); (refine Ev.of rfl ?_; first | exact fun _ => ⟨⟩ | exact id | exact And.right | exact And.left | exact (·.1.2) | exact (·.1.1) | exact (·.1.1.1) | exact (·.1.1.2)); exact rfl)
    | (apply Q_or; (refine Ev.of rfl ?_; first | exact fun _ => ⟨⟩ | exact id | exact And.right | exact And.left | exact (·.1.2) | exact (·.1.1) | exact (·.1.1.1) | exact (·.1.1.2)); (refine Ev.of rfl ?_; first | exact fun _ => ⟨⟩ | exact id | exact And.right | exact And.left | exact (·.1.2) | exact (·.1.1) | exact (·.1.1.1) | exact (·.1.1.2)))
    | (apply Q_and; (refine Ev.of rfl ?_; first | exact fun _ => ⟨⟩ | exact id | exact And.right | exact And.left | exact (·.1.2) | exact (·.1.1) | exact (·.1.1.1) | exact (·.1.1.2)); (refine Ev.of rfl ?_; first | exact fun _ => ⟨⟩ | exact id | exact And.right | exact And.left | exact (·.1.2) | exact (·.1.1) | exact (·.1.1.1) | exact (·.1.1.2)))
    | (apply Q_not; (refine Ev.of rfl ?_; first | exact fun _ => ⟨⟩ | exact id | exact And.right | exact And.left | exact (·.1.2) | exact (·.1.1) | exact (·.1.1.1) | exact (·.1.1.2)))
    | (apply Q_lenm TYok; (refine Ev.of rfl ?_; first | exact fun _ => ⟨⟩ | exact id | exact And.right | exact And.left | exact (·.1.2) | exact (·.1.1) | exact (·.1.1.1) | exact (·.1.1.2)); exact rfl; exact rfl)
    | (apply Q_lend TYok; (refine Ev.of rfl ?_; first | exact fun _ => ⟨⟩ | exact id | exact And.right | exact And.left | exact (·.1.2) | exact (·.1.1) | exact (·.1.1.1) | exact (·.1.1.2)); exact rfl; exact rfl)
    | (apply Q_lenom TYok; (refine Ev.of rfl ?_; first | exact fun _ => ⟨⟩ | exact id | exact And.right | exact And.left | exact (·.1.2) | exact (·.1.1) | exact (·.1.1.1) | exact (·.1.1.2)); exact rfl; exact rfl; exact rfl)
    | (apply Q_len TYok; (refine Ev.of rfl ?_; first | exact fun _ => ⟨⟩ | exact id | exact And.right | exact And.left | exact (·.1.2) | exact (·.1.1) | exact (·.1.1.1) | exact (·.1.1.2)); exact rfl; exact rfl; exact rfl)
    | (apply Q_len0 TYok; (refine Ev.of rfl ?_; first | exact fun _ => ⟨⟩ | exact id | exact And.right | exact And.left | exact (·.1.2) | exact (·.1.1) | exact (·.1.1.1) | exact (·.1.1.2)); exact rfl; exact rfl)
    | (apply Q_lens TYok; (refine Ev.of rfl ?_; first | exact fun _ => ⟨⟩ | exact id | exact And.right | exact And.left | exact (·.1.2) | exact (·.1.1) | exact (·.1.1.1) | exact (·.1.1.2)); exact rfl; exact rfl)
    | (apply Q_indexd TYok; (refine Ev.of rfl ?_; first | exact fun _ => ⟨⟩ | exact id | exact And.right | exact And.left | exact (·.1.2) | exact (·.1.1) | exact (·.1.1.1) | exact (·.1.1.2)); (refine Ev.of rfl ?_; first | exact fun _ => ⟨⟩ | exact id | exact And.right | exact And.left | exact (·.1.2) | exact (·.1.1) | exact (·.1.1.1) | exact (·.1.1.2)); exact rfl; exact rfl; exact rfl; (intro hg; first | exact getRowN (by first | omega | (simp at hg; omega)) | exact getRowI (by first | omega | (simp at hg; omega))); exact rfl)
    | (apply Q_index TYok; (refine Ev.of rfl ?_; first | exact fun _ => ⟨⟩ | exact id | exact And.right | exact And.left | exact (·.1.2) | exact (·.1.1) | exact (·.1.1.1) | exact (·.1.1.2)); (refine Ev.of rfl ?_; first | exact fun _ => ⟨⟩ | exact id | exact And.right | exact And.left | exact (·.1.2) | exact (·.1.1) | exact (·.1.1.1) | exact (·.1.1.2)); exact rfl; exact rfl; exact rfl; exact rfl; exact rfl; (intro hg; first | (simp; omega) | (simp at hg; simp; omega)))
    | (apply Q_binS; (refine Ev.of rfl ?_; first | exact fun _ => ⟨⟩ | exact id | exact And.right | exact And.left | exact (·.1.2) | exact (·.1.1) | exact (·.1.1.1) | exact (·.1.1.2)); (refine Ev.of rfl ?_; first | exact fun _ => ⟨⟩ | exact id | exact And.right | exact And.left | exact (·.1.2) | exact (·.1.1) | exact (·.1.1.1) | exact (·.1.1.2)); exact rfl)
    | (apply Q_binB TYok; (refine Ev.of rfl ?_; first | exact fun _ => ⟨⟩ | exact id | exact And.right | exact And.left | exact (·.1.2) | exact (·.1.1) | exact (·.1.1.1) | exact (·.1.1.2)); (refine Ev.of rfl ?_; first | exact fun _ => ⟨⟩ | exact id | exact And.right | exact And.left | exact (·.1.2) | exact (·.1.1) | exact (·.1.1.1) | exact (·.1.1.2)); exact rfl; exact rfl; exact rfl)
    | (apply Q_extract; (refine Ev.of rfl ?_; first | exact fun _ => ⟨⟩ | exact id | exact And.right | exact And.left | exact (·.1.2) | exact (·.1.1) | exact (·.1.1.1) | exact (·.1.1.2)); exact rfl)); exact rfl)
              | (apply S_alloc TYok; exact rfl; exact rfl; exact rfl; exact rfl)
              | (apply S_store TYok; (refine Ev.of rfl ?_; first | exact fun _ => ⟨⟩ | exact id | exact And.right | exact And.left | exact (·.1.2) | exact (·.1.1) | exact (·.1.1.1) | exact (·.1.1.2)); (refine Ev.of rfl ?_; first | exact fun _ => ⟨⟩ | exact id | exact And.right | exact And.left | exact (·.1.2) | exact (·.1.1) | exact (·.1.1.1) | exact (·.1.1.2)); exact rfl; exact rfl; exact rfl; exact rfl; exact rfl)
              | (apply S_storem TYok; (refine Ev.of rfl ?_; first | exact fun _ => ⟨⟩ | exact id | exact And.right | exact And.left | exact (·.1.2) | exact (·.1.1) | exact (·.1.1.1) | exact (·.1.1.2)); (refine Ev.of rfl ?_; first | exact fun _ => ⟨⟩ | exact id | exact And.right | exact And.left | exact (·.1.2) | exact (·.1.1) | exact (·.1.1.1) | exact (·.1.1.2)); exact rfl; exact rfl; (first | omega | (simp; omega)); exact rfl; (intro z; exact rfl))
              | (apply S_lit TYok; (repeat (first | exact EvR.nil | apply EvR.cons (by refine Ev.of rfl ?_; first | exact fun _ => ⟨⟩ | exact id | exact And.right | exact And.left | exact (·.1.2) | exact (·.1.1) | exact (·.1.1.1) | exact (·.1.1.2)))); exact rfl; exact rfl; exact rfl; exact rfl; exact rfl; exact rfl; exact rfl; exact rfl; exact rfl)
              | (apply S_append TYok; (refine Ev.of rfl ?_; first | exact fun _ => ⟨⟩ | exact id | exact And.right | exact And.left | exact (·.1.2) | exact (·.1.1) | exact (·.1.1.1) | exact (·.1.1.2)); (refine Ev.of rfl ?_; first | exact fun _ => ⟨⟩ | exact id | exact And.right | exact And.left | exact (·.1.2) | exact (·.1.1) | exact (·.1.1.1) | exact (·.1.1.2)); exact rfl; exact rfl; exact rfl; exact rfl; exact rfl; exact rfl; exact rfl; exact rfl; exact rfl; exact rfl; (constructor <;> simp <;> omega); exact rfl)
              | (apply S_append0 TYok; (refine Ev.of rfl ?_; first | exact fun _ => ⟨⟩ | exact id | exact And.right | exact And.left | exact (·.1.2) | exact (·.1.1) | exact (·.1.1.1) | exact (·.1.1.2)); (refine Ev.of rfl ?_; first | exact fun _ => ⟨⟩ | exact id | exact And.right | exact And.left | exact (·.1.2) | exact (·.1.1) | exact (·.1.1.1) | exact (·.1.1.2)); exact rfl; exact rfl; exact rfl; exact rfl; exact rfl; exact rfl; exact rfl; (constructor <;> simp <;> omega); exact rfl; exact rfl)
              | (apply S_appendd TYok; (refine Ev.of rfl ?_; first | exact fun _ => ⟨⟩ | exact id | exact And.right | exact And.left | exact (·.1.2) | exact (·.1.1) | exact (·.1.1.1) | exact (·.1.1.2)); (refine Ev.of rfl ?_; first | exact fun _ => ⟨⟩ | exact id | exact And.right | exact And.left | exact (·.1.2) | exact (·.1.1) | exact (·.1.1.1) | exact (·.1.1.2)); exact rfl; exact rfl; exact rfl; exact rfl; exact rfl; exact rfl; exact rfl; exact rfl; (intro r hr; obtain ⟨_, _, rfl⟩ := List.mem_map.1 hr; rfl); (constructor <;> simp <;> omega); exact rfl)
              | (apply S_box; (refine Ev.of rfl ?_; first | exact fun _ => ⟨⟩ | exact id | exact And.right | exact And.left | exact (·.1.2) | exact (·.1.1) | exact (·.1.1.1) | exact (·.1.1.2)); exact rfl; exact rfl; exact rfl)
              | (apply S_isnil TYok; exact rfl; exact rfl; exact rfl; (refine Ev.of rfl ?_; first | exact fun _ => ⟨⟩ | exact id | exact And.right | exact And.left | exact (·.1.2) | exact (·.1.1) | exact (·.1.1.1) | exact (·.1.1.2)); intro bn hnil)
              | (apply RG.gT; exact rfl; exact rfl; (first | assumption | decide))
              | (apply RG.gF; exact rfl; exact rfl; (first | assumption | decide); exact rfl)
              | (refine W.cond (by refine Ev.of rfl ?_; first | exact fun _ => ⟨⟩ | exact id | exact And.right | exact And.left | exact (·.1.2) | exact (·.1.1) | exact (·.1.1.1) | exact (·.1.1.2)) (fun hb => ?_) (fun hb => ?_) <;> (try simp at hb) <;> (try (exfalso; omega))))
            · have hs : sameAs (nth fs k) x = true := by simp [sameAs, hb]
              have eU : updF x (nth fs k) = ⟨(nth fs k).issuer, (nth fs k).name, (nth fs k).period, x.value, (nth fs k).day⟩ := by simp [updF, hs]
              rw [hs, Bool.or_true] at e2
              rw [eU] at e1
              refine ⟨k + 1, by omega, ?_, ?_⟩
              · simp only [e1, e2]
                refine Le.mkR rfl rfl ?_ ?_ ?_ rfl
                · repeat (first | exact SubR.nil | apply SubR.p rfl (by first | rfl | (simp; done) | (congr 3; omega) | (congr 3; simp; omega)) | apply SubR.s rfl rfl rfl | apply SubR.a rfl rfl rfl | apply SubR.t rfl rfl | apply SubR.m rfl rfl rfl | apply SubR.i rfl rfl rfl rfl rfl)
                · repeat (first | exact SubR.nil | apply SubR.p rfl (by first | rfl | (simp; done) | (congr 3; omega) | (congr 3; simp; omega)) | apply SubR.s rfl rfl rfl | apply SubR.a rfl rfl rfl | apply SubR.t rfl rfl | apply SubR.m rfl rfl rfl | apply SubR.i rfl rfl rfl rfl rfl)
                · repeat (first | exact SubBR.nil | apply SubBR.cons rfl (by first | rfl | (simp only [List.map_append, List.map_replicate, List.map_cons, List.map_nil]; rfl) | (simp only [List.map_append, List.map_cons, List.map_nil, List.append_assoc, List.cons_append, List.nil_append]; rfl) | (simp; done)))
              · (try simp only); omega
            · have hs : sameAs (nth fs k) x = false := by
                simp only [sameAs, Bool.and_eq_false_iff, decide_eq_false_iff_not]
                by_cases q1 : (nth fs k).issuer = x.issuer
                · by_cases q2 : (nth fs k).name = x.name
                  · exact .inr (hb q1 q2)
                  · exact .inl (.inr q2)
                · exact .inl (.inl q1)
              have eU : updF x (nth fs k) = nth fs k := by simp [updF, hs]
              rw [hs, Bool.or_false] at e2
              rw [eU] at e1
              refine ⟨k + 1, by omega, ?_, ?_⟩
              · simp only [e1, e2]
                refine Le.mkR rfl rfl ?_ ?_ ?_ rfl
                · repeat (first | exact SubR.nil | apply SubR.p rfl (by first | rfl | (simp; done) | (congr 3; omega) | (congr 3; simp; omega)) | apply SubR.s rfl rfl rfl | apply SubR.a rfl rfl rfl | apply SubR.t rfl rfl | apply SubR.m rfl rfl rfl | apply SubR.i rfl rfl rfl rfl rfl)
                · repeat (first | exact SubR.nil | apply SubR.p rfl (by first | rfl | (simp; done) | (congr 3; omega) | (congr 3; simp; omega)) | apply SubR.s rfl rfl rfl | apply SubR.a rfl rfl rfl | apply SubR.t rfl rfl | apply SubR.m rfl rfl rfl | apply SubR.i rfl rfl rfl rfl rfl)
                · repeat (first | exact SubBR.nil | apply SubBR.cons rfl (by first | rfl | (simp only [List.map_append, List.map_replicate, List.map_cons, List.map_nil]; rfl) | (simp only [List.map_append, List.map_cons, List.map_nil, List.append_assoc, List.cons_append, List.nil_append]; rfl) | (simp; done)))
              · (try simp only); omega
          · obtain rfl : k = fs.length := by omega
            rw [List.take_length]
            repeat' (first
              | apply RG.nil
              | apply Lex.nil
              | apply Then.n
              | apply Then.r
              | apply Then.x
              | apply InBlock.n
              | apply InBlock.r
              | apply InBlock.hit
              | (apply InBlock.miss; exact rfl)
              | apply W.seq
              | apply W.region
              | apply W.block
              | apply W.skip
              | apply W.ret
              | apply W.exit
              | (refine W.drawA (id := 2) (L := [false, false, false, false, false, false, false, false, false]) mixed rfl ?_)
              | exact RAll.nil
              | (refine RAll.cons rfl ?_ ?_)
              | (refine RA.step (L := [false, false, false, false, false, false, false, false, false]) (i := 0) (is := [1, 2, 4]) (by kernel_rfl) ?_)
              | (refine RA.step (L := [false, false, false, false, true, false, false, false, false]) (i := 0) (is := [1, 2, 5]) (by kernel_rfl) ?_)
              | (refine RA.step (L := [false, false, false, false, true, true, false, false, false]) (i := 0) (is := [1, 2]) (by kernel_rfl) ?_)
              | (refine RA.step (L := [false, false, true, false, true, true, false, false, false]) (i := 0) (is := [1]) (by kernel_rfl) ?_)
              | (refine RA.step (L := [false, true, true, false, true, true, false, false, false]) (i := 0) (is := [3]) (by kernel_rfl) ?_)
              | (refine RA.step (L := [false, true, true, true, true, true, false, false, false]) (i := 0) (is := [6]) (by kernel_rfl) ?_)
              | (refine RA.step (L := [false, true, true, true, true, true, true, false, false]) (i := 0) (is := []) (by kernel_rfl) ?_)
              | (refine RA.step (L := [true, true, true, true, true, true, true, false, false]) (i := 7) (is := []) (by kernel_rfl) ?_)
              | (refine RA.step (L := [true, true, true, true, true, true, true, true, false]) (i := 8) (is := []) (by kernel_rfl) ?_)
              | (refine RA.done (L := [true, true, true, true, true, true, true, true, true]) (by kernel_rfl) ?_)
              | (refine RA.step (L := [true, true, true, true, true, true, false, false, false]) (i := 6) (is := []) (by kernel_rfl) ?_)
              | (refine RA.step (L := [true, true, true, false, true, true, false, false, false]) (i := 3) (is := []) (by kernel_rfl) ?_)
              | (refine RA.step (L := [true, false, true, false, true, true, false, false, false]) (i := 1) (is := []) (by kernel_rfl) ?_)
              | (refine RA.step (L := [false, true, false, false, true, true, false, false, false]) (i := 0) (is := [2]) (by kernel_rfl) ?_)
              | (refine RA.step (L := [true, true, false, false, true, true, false, false, false]) (i := 2) (is := []) (by kernel_rfl) ?_)
              | (refine RA.step (L := [true, false, false, false, true, true, false, false, false]) (i := 1) (is := [2]) (by kernel_rfl) ?_)
              | (refine RA.step (L := [false, false, true, false, true, false, false, false, false]) (i := 0) (is := [1, 5]) (by kernel_rfl) ?_)
              | (refine RA.step (L := [false, true, true, false, true, false, false, false, false]) (i := 0) (is := [3, 5]) (by kernel_rfl) ?_)
              | (refine RA.step (L := [false, true, true, true, true, false, false, false, false]) (i := 0) (is := [5]) (by kernel_rfl) ?_)
              | (refine RA.step (L := [true, true, true, true, true, false, false, false, false]) (i := 5) (is := []) (by kernel_rfl) ?_)
              | (refine RA.step (L := [true, true, true, false, true, false, false, false, false]) (i := 3) (is := [5]) (by kernel_rfl) ?_)
              | (refine RA.step (L := [true, false, true, false, true, false, false, false, false]) (i := 1) (is := [5]) (by kernel_rfl) ?_)
              | (refine RA.step (L := [false, true, false, false, true, false, false, false, false]) (i := 0) (is := [2, 5]) (by kernel_rfl) ?_)
              | (refine RA.step (L := [true, true, false, false, true, false, false, false, false]) (i := 2) (is := [5]) (by kernel_rfl) ?_)
              | (refine RA.step (L := [true, false, false, false, true, false, false, false, false]) (i := 1) (is := [2, 5]) (by kernel_rfl) ?_)
              | (refine RA.step (L := [false, false, true, false, false, false, false, false, false]) (i := 0) (is := [1, 4]) (by kernel_rfl) ?_)
              | (refine RA.step (L := [false, true, true, false, false, false, false, false, false]) (i := 0) (is := [3, 4]) (by kernel_rfl) ?_)
              | (refine RA.step (L := [false, true, true, true, false, false, false, false, false]) (i := 0) (is := [4]) (by kernel_rfl) ?_)
              | (refine RA.step (L := [true, true, true, true, false, false, false, false, false]) (i := 4) (is := []) (by kernel_rfl) ?_)
              | (refine RA.step (L := [true, true, true, false, false, false, false, false, false]) (i := 3) (is := [4]) (by kernel_rfl) ?_)
              | (refine RA.step (L := [true, false, true, false, false, false, false, false, false]) (i := 1) (is := [4]) (by kernel_rfl) ?_)
              | (refine RA.step (L := [false, true, false, false, false, false, false, false, false]) (i := 0) (is := [2, 4]) (by kernel_rfl) ?_)
              | (refine RA.step (L := [true, true, false, false, false, false, false, false, false]) (i := 2) (is := [4]) (by kernel_rfl) ?_)
              | (refine RA.step (L := [true, false, false, false, false, false, false, false, false]) (i := 1) (is := [2, 4]) (by kernel_rfl) ?_)
              | ((first | apply U_ | (apply Ug_; exact rfl; exact rfl) | (apply Ugq_; exact rfl; exact rfl)); (first
    | (apply Q_move; (refine Ev.of rfl ?_; first | exact fun _ => ⟨⟩ | exact id | exact And.right | exact And.left | exact (·.1.2) | exact (·.1.1) | exact (·.1.1.1) | exact (·.1.1.2)))
    | (apply Q_assign; (refine Ev.of rfl ?_; first | exact fun _ => ⟨⟩ | exact id | exact And.right | exact And.left | exact (·.1.2) | exact (·.1.1) | exact (·.1.1.1) | exact (·.1.1.2)))
    | (apply Q_fieldp TYok; (refine Ev.of rfl ?_; first | exact fun _ => ⟨⟩ | exact id | exact And.right | exact And.left | exact (·.1.2) | exact (·.1.1) | exact (·.1.1.1) | exact (·.1.1.2)); exact rfl; exact rfl; exact rfl; exact rfl; exact rfl)
    | (apply Q_field TYok; (refine Ev.of rfl ?_; first | exact fun _ => ⟨⟩ | exact id | exact And.right | exact And.left | exact (·.1.2) | exact (·.1.1) | exact (·.1.1.1) | exact (·.1.1.2)); exact rfl; exact rfl; exact rfl; exact rfl; exact rfl)
    | (apply Q_loadp TYok; exact rfl; exact rfl; (refine Ev.of rfl ?_; first | exact fun _ => ⟨⟩ | exact id | exact And.right | exact And.left | exact (·.1.2) | exact (·.1.1) | exact (·.1.1.1) | exact (·.1.1.2)); exact rfl)
    | (apply Q_load TYok; exact rfl; exact rfl; (refine Ev.of rfl ?_; first | exact fun _ => ⟨⟩ | exact id | exact And.right | exact And.left | exact (·.1.2) | exact (·.1.1) | exact (·.1.1.1) | exact (·.1.1.2)); exact rfl; exact rfl; exact rfl)
    | (apply Q_loadm TYok; exact rfl; exact rfl; (refine Ev.of rfl ?_; first | exact fun _ => ⟨⟩ | exact id | exact And.right | exact And.left | exact (·.1.2) | exact (·.1.1) | exact (·.1.1.1) | exact (·.1.1.2)); exact rfl; (intro hg; first | omega | (simp; omega) | (simp at hg; simp; omega)); exact rfl; infer_instance)
    | (apply Q_loadpa TYok; exact rfl; exact rfl; (refine Ev.of rfl ?_; first | exact fun _ => ⟨⟩ | exact id | exact And.right | exact And.left | exact (·.1.2) | exact (·.1.1) | exact (·.1.1.1) | exact (·.1.1.2)); exact rfl)
    | (apply Q_loada TYok; exact rfl; exact rfl; (refine Ev.of rfl ?_; first | exact fun _ => ⟨⟩ | exact id | exact And.right | exact And.left | exact (·.1.2) | exact (·.1.1) | exact (·.1.1.1) | exact (·.1.1.2)); exact rfl; exact rfl; exact rfl)
    | (apply Q_loadma TYok; exact rfl; exact rfl; (refine Ev.of rfl ?_; first | exact fun _ => ⟨⟩ | exact id | exact And.right | exact And.left | exact (·.1.2) | exact (·.1.1) | exact (·.1.1.1) | exact (·.1.1.2)); exact rfl; (intro hg; first | omega | (simp; omega) | (simp at hg; simp; omega)); exact rfl; infer_instance)
    | (apply Q_add; (refine Ev.of rfl ?_; first | exact fun _ => ⟨⟩ | exact id | exact And.right | exact And.left | exact (·.1.2) | exact (·.1.1) | exact (·.1.1.1) | exact (·.1.1.2)); (refine Ev.of rfl ?_; first | exact fun _ => ⟨⟩ | exact id | exact And.right | exact And.left | exact (·.1.2) | exact (·.1.1) | exact (·.1.1.1) | exact (·.1.1.2)); (first | omega | (constructor <;> omega)))
    | (apply Q_bin; (refine Ev.of rfl ?_; first | exact fun _ => ⟨⟩ | exact id | exact And.right | exact And.left | exact (·.1.2) | exact (·.1.1) | exact (·.1.1.1) | exact (·.1.1.2)); (refine Ev.of rfl ?_; first | exact fun _ => ⟨⟩ | exact id | exact And.right | exact And.left | exact (·.1.2) | exact (·.1.1) | exact (·.1.1.1) | exact (·.1.1.2)); exact rfl)
    | (apply Q_or; (refine Ev.of rfl ?_; first | exact fun _ => ⟨⟩ | exact id | exact And.right | exact And.left | exact (·.1.2) | exact (·.1.1) | exact (·.1.1.1) | exact (·.1.1.2)); (refine Ev.of rfl ?_; first | exact fun _ => ⟨⟩ | exact id | exact And.right | exact And.left | exact (·.1.2) | exact (·.1.1) | exact (·.1.1.1) | exact (·.1.1.2)))
    | (apply Q_and; (refine Ev.of rfl ?_; first | exact fun _ => ⟨⟩ | exact id | exact And.right | exact And.left | exact (·.1.2) | exact (·.1.1) | exact (·.1.1.1) | exact (·.1.1.2)); (refine Ev.of rfl ?_; first | exact fun _ => ⟨⟩ | exact id | exact And.right | exact And.left | exact (·.1.2) | exact (·.1.1) | exact (·.1.1.1) | exact (·.1.1.2)))
    | (apply Q_not; (refine Ev.of rfl ?_; first | exact fun _ => ⟨⟩ | exact id | exact And.right | exact And.left | exact (·.1.2) | exact (·.1.1) | exact (·.1.1.1) | exact (·.1.1.2)))
    | (apply Q_lenm TYok; (refine Ev.of rfl ?_; first | exact fun _ => ⟨⟩ | exact id | exact And.right | exact And.left | exact (·.1.2) | exact (·.1.1) | exact (·.1.1.1) | exact (·.1.1.2)); exact rfl; exact rfl)
    | (apply Q_lend TYok; (refine Ev.of rfl ?_; first | exact fun _ => ⟨⟩ | exact id | exact And.right | exact And.left | exact (·.1.2) | exact (·.1.1) | exact (·.1.1.1) | exact (·.1.1.2)); exact rfl; exact rfl)
    | (apply Q_lenom TYok; (refine Ev.of rfl ?_; first | exact fun _ => ⟨⟩ | exact id | exact And.right | exact And.left | exact (·.1.2) | exact (·.1.1) | exact (·.1.1.1) | exact (·.1.1.2)); exact rfl; exact rfl; exact rfl)
    | (apply Q_len TYok; (refine Ev.of rfl ?_; first | exact fun _ => ⟨⟩ | exact id | exact And.right | exact And.left | exact (·.1.2) | exact (·.1.1) | exact (·.1.1.1) | exact (·.1.1.2)); exact rfl; exact rfl; exact rfl)
    | (apply Q_len0 TYok; (refine Ev.of rfl ?_; first | exact fun _ => ⟨⟩ | exact id | exact And.right | exact And.left | exact (·.1.2) | exact (·.1.1) | exact (·.1.1.1) | exact (·.1.1.2)); exact rfl; exact rfl)
    | (apply Q_lens TYok; (refine Ev.of rfl ?_; first | exact fun _ => ⟨⟩ | exact id | exact And.right | exact And.left | exact (·.1.2) | exact (·.1.1) | exact (·.1.1.1) | exact (·.1.1.2)); exact rfl; exact rfl)
    | (apply Q_indexd TYok; (refine Ev.of rfl ?_; first | exact fun _ => ⟨⟩ | exact id | exact And.right | exact And.left | exact (·.1.2) | exact (·.1.1) | exact (·.1.1.1) | exact (·.1.1.2)); (refine Ev.of rfl ?_; first | exact fun _ => ⟨⟩ | exact id | exact And.right | exact And.left | exact (·.1.2) | exact (·.1.1) | exact (·.1.1.1) | exact (·.1.1.2)); exact rfl; exact rfl; exact rfl; (intro hg; first | exact getRowN (by first | omega | (simp at hg; omega)) | exact getRowI (by first | omega | (simp at hg; omega))); exact rfl)
    | (apply Q_index TYok; (refine Ev.of rfl ?_; first | exact fun _ => ⟨⟩ | exact id | exact And.right | exact And.left | exact (·.1.2) | exact (·.1.1) | exact (·.1.1.1) | exact (·.1.1.2)); (refine Ev.of rfl ?_; first | exact fun _ => ⟨⟩ | exact id | exact And.right | exact And.left | exact (·.1.2) | exact (·.1.1) | exact (·.1.1.1) | exact (·.1.1.2)); exact rfl; exact rfl; exact rfl; exact rfl; exact rfl; (intro hg; first | (simp; omega) | (simp at hg; simp; omega)))
    | (apply Q_binS; (refine Ev.of rfl ?_; first | exact fun _ => ⟨⟩ | exact id | exact And.right | exact And.left | exact (·.1.2) | exact (·.1.1) | exact (·.1.1.1) | exact (·.1.1.2)); (refine Ev.of rfl ?_; first | exact fun _ => ⟨⟩ | exact id | exact And.right | exact And.left | exact (·.1.2) | exact (·.1.1) | exact (·.1.1.1) | exact (·.1.1.2)); exact rfl)
    | (apply Q_binB TYok; (refine Ev.of rfl ?_; first | exact fun _ => ⟨⟩ | exact id | exact And.right | exact And.left | exact (·.1.2) | exact (·.1.1) | exact (·.1.1.1) | exact (·.1.1.2)); (refine Ev.of rfl ?_; first | exact fun _ => ⟨⟩ | exact id | exact And.right | exact And.left | exact (·.1.2) | exact (·.1.1) | exact (·.1.1.1) | exact (·.1.1.2)); exact rfl; exact rfl; exact rfl)
    | (apply Q_extract; (refine Ev.of rfl ?_; first | exact fun _ => ⟨⟩ | exact id | exact And.right | exact And.left | exact (·.1.2) | exact (·.1.1) | exact (·.1.1.1) | exact (·.1.1.2)); exact rfl)
    | (apply Q_call (S3); (repeat (first | exact EvL.nil | refine EvL.cons (by refine Ev.of rfl ?_; first | exact fun _ => ⟨⟩ | exact id | exact And.right | exact And.left | exact (·.1.2) | exact (·.1.1) | exact (·.1.1.1) | exact (·.1.1.2)) rfl (by first | exact PSub.rfl' | exact PSub.nil' | (refine PSub.of_eq ?_; simp only [List.map_append, List.map_cons, List.map_nil, List.nil_append]; rfl)) ?_)); exact rfl)
    | (apply Q_call (RS); (repeat (first | exact EvL.nil | refine EvL.cons (by refine Ev.of rfl ?_; first | exact fun _ => ⟨⟩ | exact id | exact And.right | exact And.left | exact (·.1.2) | exact (·.1.1) | exact (·.1.1.1) | exact (·.1.1.2)) rfl (by first | exact PSub.rfl' | exact PSub.nil' | (refine PSub.of_eq ?_; simp only [List.map_append, List.map_cons, List.map_nil, List.nil_append]; rfl)) ?_)); exact rfl)); exact rfl)
              | (apply S_alloc TYok; exact rfl; exact rfl; exact rfl; exact rfl)
              | (apply S_store TYok; (refine Ev.of rfl ?_; first | exact fun _ => ⟨⟩ | exact id | exact And.right | exact And.left | exact (·.1.2) | exact (·.1.1) | exact (·.1.1.1) | exact (·.1.1.2)); (refine Ev.of rfl ?_; first | exact fun _ => ⟨⟩ | exact id | exact And.right | exact And.left | exact (·.1.2) | exact (·.1.1) | exact (·.1.1.1) | exact (·.1.1.2)); exact rfl; exact rfl; exact rfl; exact rfl; exact rfl)
              | (apply S_storem TYok; (refine Ev.of rfl ?_; first | exact fun _ => ⟨⟩ | exact id | exact And.right | exact And.left | exact (·.1.2) | exact (·.1.1) | exact (·.1.1.1) | exact (·.1.1.2)); (refine Ev.of rfl ?_; first | exact fun _ => ⟨⟩ | exact id | exact And.right | exact And.left | exact (·.1.2) | exact (·.1.1) | exact (·.1.1.1) | exact (·.1.1.2)); exact rfl; exact rfl; (first | omega | (simp; omega)); exact rfl; (intro z; exact rfl))
              | (apply S_lit TYok; (repeat (first | exact EvR.nil | apply EvR.cons (by refine Ev.of rfl ?_; first | exact fun _ => ⟨⟩ | exact id | exact And.right | exact And.left | exact (·.1.2) | exact (·.1.1) | exact (·.1.1.1) | exact (·.1.1.2)))); exact rfl; exact rfl; exact rfl; exact rfl; exact rfl; exact rfl; exact rfl; exact rfl; exact rfl)
              | (apply S_append TYok; (refine Ev.of rfl ?_; first | exact fun _ => ⟨⟩ | exact id | exact And.right | exact And.left | exact (·.1.2) | exact (·.1.1) | exact (·.1.1.1) | exact (·.1.1.2)); (refine Ev.of rfl ?_; first | exact fun _ => ⟨⟩ | exact id | exact And.right | exact And.left | exact (·.1.2) | exact (·.1.1) | exact (·.1.1.1) | exact (·.1.1.2)); exact rfl; exact rfl; exact rfl; exact rfl; exact rfl; exact rfl; exact rfl; exact rfl; exact rfl; exact rfl; (constructor <;> simp <;> omega); exact rfl)
              | (apply S_append0 TYok; (refine Ev.of rfl ?_; first | exact fun _ => ⟨⟩ | exact id | exact And.right | exact And.left | exact (·.1.2) | exact (·.1.1) | exact (·.1.1.1) | exact (·.1.1.2)); (refine Ev.of rfl ?_; first | exact fun _ => ⟨⟩ | exact id | exact And.right | exact And.left | exact (·.1.2) | exact (·.1.1) | exact (·.1.1.1) | exact (·.1.1.2)); exact rfl; exact rfl; exact rfl; exact rfl; exact rfl; exact rfl; exact rfl; (constructor <;> simp <;> omega); exact rfl; exact rfl)
              | (apply S_appendd TYok; (refine Ev.of rfl ?_; first | exact fun _ => ⟨⟩ | exact id | exact And.right | exact And.left | exact (·.1.2) | exact (·.1.1) | exact (·.1.1.1) | exact (·.1.1.2)); (refine Ev.of rfl ?_; first | exact fun _ => ⟨⟩ | exact id | exact And.right | exact And.left | exact (·.1.2) | exact (·.1.1) | exact (·.1.1.1) | exact (·.1.1.2)); exact rfl; exact rfl; exact rfl; exact rfl; exact rfl; exact rfl; exact rfl; exact rfl; (intro r hr; obtain ⟨_, _, rfl⟩ := List.mem_map.1 hr; rfl); (constructor <;> simp <;> omega); exact rfl)
              | (apply S_box; (refine Ev.of rfl ?_; first | exact fun _ => ⟨⟩ | exact id | exact And.right | exact And.left | exact (·.1.2) | exact (·.1.1) | exact (·.1.1.1) | exact (·.1.1.2)); exact rfl; exact rfl; exact rfl)
              | (apply S_isnil TYok; exact rfl; exact rfl; exact rfl; (refine Ev.of rfl ?_; first | exact fun _ => ⟨⟩ | exact id | exact And.right | exact And.left | exact (·.1.2) | exact (·.1.1) | exact (·.1.1.1) | exact (·.1.1.2)); intro bn hnil)
              | (apply RG.gT; exact rfl; exact rfl; (first | assumption | decide))
              | (apply RG.gF; exact rfl; exact rfl; (first | assumption | decide); exact rfl)
              | (refine W.cond (by refine Ev.of rfl ?_; first | exact fun _ => ⟨⟩ | exact id | exact And.right | exact And.left | exact (·.1.2) | exact (·.1.1) | exact (·.1.1.1) | exact (·.1.1.2)) (fun hb => ?_) (fun hb => ?_) <;> (try simp at hb) <;> (try (exfalso; omega))))
            refine Fin.retB rfl ?_
            cases hr : fs.any fun y => sameAs y x with
            | true => simp [L3 hr]
            | false => simp [L4 hr]
end Go.Proofs.Ytceggnkijedonaa
