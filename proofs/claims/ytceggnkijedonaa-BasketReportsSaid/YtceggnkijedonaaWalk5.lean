/-
  Size, by the program (a map, and a range over it) and by the reference.
-/
import Derived.Test.YtceggnkijedonaaSums
set_option linter.unusedVariables false
set_option linter.unusedSimpArgs false
set_option maxHeartbeats 8000000
namespace Go.Proofs.Ytceggnkijedonaa
open Lf Go
attribute [local irreducible] PureOp EffOp Ev RG W Then InBlock Lf.Fin nth App InitE Pick SubE SubF SubG EvL EvD EvP EvR ResL Lex SubR SubBR RA RAll EvC FinO EvA

def cellI (n : Int) : List Cell := [.int .i64 n]
theorem KI : KeyK Try.prog 3 kI := KeyK.int (by kernel_rfl)
def sizeV (b : Basket) (s : Int) : Int := min b.cap (b.start + shareF s b.share)
def sizeOk (b : Basket) (fs : List Fact) (i d : Int) : Bool := rightF b && factsF fs && inF i 0 59 && inF d 0 200000
def sumF (b : Basket) (fs : List Fact) (i d : Int) : Int := min (lastSum (fun f => aboutF b f i d) fs) 1000000000000000000
def sizeF (b : Basket) (fs : List Fact) (i d : Int) : Int × Int := if sizeOk b fs i d then (sizeV b (sumF b fs i d), 0) else (0, 1)
abbrev pair (r : Int × Int) : AV := .tup [cI r.1, cI r.2]
theorem fsOk_all : ∀ {l : List Fact} {d : Int}, fsOk d l = true → ∀ f ∈ l, oneF f = true
  | g :: r, d, h, f, hf => by
    simp only [fsOk, Bool.and_eq_true] at h
    rcases List.mem_cons.1 hf with rfl | hf
    · exact h.1.1
    · exact fsOk_all h.2 f hf
theorem facts_val {l : List Fact} (h : factsF l = true) : ∀ f ∈ l, 0 ≤ f.value ∧ f.value ≤ 1000000000000000 := fun f hf => by
  simp only [factsF, Bool.and_eq_true] at h
  have := fsOk_all h.2 f hf
  simp [oneF] at this; omega
theorem share_b {s n : Int} (h : 0 ≤ s ∧ s ≤ 1000000000000000000) (hb : 0 ≤ n ∧ n ≤ 1000) : (0 ≤ s / 1000 * n ∧ s / 1000 * n ≤ 1000000000000000000) ∧ 0 ≤ s % 1000 * n ∧ s % 1000 * n ≤ 1000000 := by
  refine ⟨⟨Int.mul_nonneg (by omega) hb.1, ?_⟩, Int.mul_nonneg (by omega) hb.1, ?_⟩
  · have : s / 1000 * n ≤ s / 1000 * 1000 := Int.mul_le_mul_of_nonneg_left hb.2 (by omega)
    omega
  · have : s % 1000 * n ≤ s % 1000 * 1000 := Int.mul_le_mul_of_nonneg_left hb.2 (by omega)
    omega
theorem size_ok (b : Basket) (fs : List Fact) (i d : Int) (hn : okN b.name) (h : ∀ f ∈ fs, okN f.name) (hl : big fs.length) : ACalls Try.prog 10 [aB b, slF fs, cI i, cI d] (pair (sizeF b fs i d)) := by
  refine ACalls.of_W (qs := [cI (sizeF b fs i d).1, cI (sizeF b fs i d).2]) [8, 9] 102 Try.func10 (by kernel_rfl) rfl rfl rfl fun G => ?_
  apply W.init (by repeat (first | exact InitE.nil | apply InitE.c0 | apply InitE.c1 | apply InitE.c2 | apply InitE.c3 | apply InitE.c4 | apply InitE.c5 | apply InitE.c6 | apply InitE.c7 | apply InitE.c8 | apply InitE.c9 | apply InitE.c10 | apply InitE.c11))
  repeat' (first
    | apply RG.nil
    | apply Lex.nil
    | apply Then.n
    | apply Then.r
    | apply Then.x
    | apply InBlock.n
    | apply InBlock.r
    | apply InBlock.hit
    | (apply InBlock.miss; exact rfl)
    | apply W.seq
    | apply W.region
    | apply W.block
    | apply W.skip
    | apply W.ret
    | apply W.exit
    | ((first | apply U_ | (apply Ug_; exact rfl; exact rfl) | (apply Ugq_; exact rfl; exact rfl)); (first
    | (apply Q_move; (refine Ev.of rfl ?_; first | exact fun _ => ⟨⟩ | exact id | exact And.right | exact And.left | exact (·.1.2) | exact (·.1.1) | exact (·.1.1.1) | exact (·.1.1.2)))
    | (apply Q_assign; (refine Ev.of rfl ?_; first | exact fun _ => ⟨⟩ | exact id | exact And.right | exact And.left | exact (·.1.2) | exact (·.1.1) | exact (·.1.1.1) | exact (·.1.1.2)))
    | (apply Q_fieldp TYok; (refine Ev.of rfl ?_; first | exact fun _ => ⟨⟩ | exact id | exact And.right | exact And.left | exact (·.1.2) | exact (·.1.1) | exact (·.1.1.1) | exact (·.1.1.2)); exact rfl; exact rfl; exact rfl; exact rfl; exact rfl)
    | (apply Q_field TYok; (refine Ev.of rfl ?_; first | exact fun _ => ⟨⟩ | exact id | exact And.right | exact And.left | exact (·.1.2) | exact (·.1.1) | exact (·.1.1.1) | exact (·.1.1.2)); exact rfl; exact rfl; exact rfl; exact rfl; exact rfl)
    | (apply Q_loadp TYok; exact rfl; exact rfl; (refine Ev.of rfl ?_; first | exact fun _ => ⟨⟩ | exact id | exact And.right | exact And.left | exact (·.1.2) | exact (·.1.1) | exact (·.1.1.1) | exact (·.1.1.2)); exact rfl)
    | (apply Q_load TYok; exact rfl; exact rfl; (refine Ev.of rfl ?_; first | exact fun _ => ⟨⟩ | exact id | exact And.right | exact And.left | exact (·.1.2) | exact (·.1.1) | exact (·.1.1.1) | exact (·.1.1.2)); exact rfl; exact rfl; exact rfl)
    | (apply Q_loadm TYok; exact rfl; exact rfl; (refine Ev.of rfl ?_; first | exact fun _ => ⟨⟩ | exact id | exact And.right | exact And.left | exact (·.1.2) | exact (·.1.1) | exact (·.1.1.1) | exact (·.1.1.2)); exact rfl; (intro hg; first | omega | (simp; omega) | (simp at hg; simp; omega)); exact rfl; infer_instance)
    | (apply Q_loadpa TYok; exact rfl; exact rfl; (refine Ev.of rfl ?_; first | exact fun _ => ⟨⟩ | exact id | exact And.right | exact And.left | exact (·.1.2) | exact (·.1.1) | exact (·.1.1.1) | exact (·.1.1.2)); exact rfl)
    | (apply Q_loada TYok; exact rfl; exact rfl; (refine Ev.of rfl ?_; first | exact fun _ => ⟨⟩ | exact id | exact And.right | exact And.left | exact (·.1.2) | exact (·.1.1) | exact (·.1.1.1) | exact (·.1.1.2)); exact rfl; exact rfl; exact rfl)
    | (apply Q_loadma TYok; exact rfl; exact rfl; (refine Ev.of rfl ?_; first | exact fun _ => ⟨⟩ | exact id | exact And.right | exact And.left | exact (·.1.2) | exact (·.1.1) | exact (·.1.1.1) | exact (·.1.1.2)); exact rfl; (intro hg; first | omega | (simp; omega) | (simp at hg; simp; omega)); exact rfl; infer_instance)
    | (apply Q_add; (refine Ev.of rfl ?_; first | exact fun _ => ⟨⟩ | exact id | exact And.right | exact And.left | exact (·.1.2) | exact (·.1.1) | exact (·.1.1.1) | exact (·.1.1.2)); (refine Ev.of rfl ?_; first | exact fun _ => ⟨⟩ | exact id | exact And.right | exact And.left | exact (·.1.2) | exact (·.1.1) | exact (·.1.1.1) | exact (·.1.1.2)); (first | omega | (constructor <;> omega)))
    | (apply Q_mul; (refine Ev.of rfl ?_; first | exact fun _ => ⟨⟩ | exact id | exact And.right | exact And.left | exact (·.1.2) | exact (·.1.1) | exact (·.1.1.1) | exact (·.1.1.2)); (refine Ev.of rfl ?_; first | exact fun _ => ⟨⟩ | exact id | exact And.right | exact And.left | exact (·.1.2) | exact (·.1.1) | exact (·.1.1.1) | exact (·.1.1.2)); (first | omega | (constructor <;> omega)))
    | (apply Q_quoN; (refine Ev.of rfl ?_; first | exact fun _ => ⟨⟩ | exact id | exact And.right | exact And.left | exact (·.1.2) | exact (·.1.1) | exact (·.1.1.1) | exact (·.1.1.2)); (refine Ev.of rfl ?_; first | exact fun _ => ⟨⟩ | exact id | exact And.right | exact And.left | exact (·.1.2) | exact (·.1.1) | exact (·.1.1.1) | exact (·.1.1.2)); (first | omega | (constructor <;> omega)))
    | (apply Q_remN; (refine Ev.of rfl ?_; first | exact fun _ => ⟨⟩ | exact id | exact And.right | exact And.left | exact (·.1.2) | exact (·.1.1) | exact (·.1.1.1) | exact (·.1.1.2)); (refine Ev.of rfl ?_; first | exact fun _ => ⟨⟩ | exact id | exact And.right | exact And.left | exact (·.1.2) | exact (·.1.1) | exact (·.1.1.1) | exact (·.1.1.2)); (first | omega | (constructor <;> omega)))
    | (apply Q_bin; (refine Ev.of rfl ?_; first | exact fun _ => ⟨⟩ | exact id | exact And.right | exact And.left | exact (·.1.2) | exact (·.1.1) | exact (·.1.1.1) | exact (·.1.1.2)); (refine Ev.of rfl ?_; first | exact fun _ => ⟨⟩ | exact id | exact And.right | exact And.left | exact (·.1.2) | exact (·.1.1) | exact (·.1.1.1) | exact (·.1.1.2)); exact rfl)
    | (apply Q_or; (refine Ev.of rfl ?_; first | exact fun _ => ⟨⟩ | exact id | exact And.right | exact And.left | exact (·.1.2) | exact (·.1.1) | exact (·.1.1.1) | exact (·.1.1.2)); (refine Ev.of rfl ?_; first | exact fun _ => ⟨⟩ | exact id | exact And.right | exact And.left | exact (·.1.2) | exact (·.1.1) | exact (·.1.1.1) | exact (·.1.1.2)))
    | (apply Q_and; (refine Ev.of rfl ?_; first | exact fun _ => ⟨⟩ | exact id | exact And.right | exact And.left | exact (·.1.2) | exact (·.1.1) | exact (·.1.1.1) | exact (·.1.1.2)); (refine Ev.of rfl ?_; first | exact fun _ => ⟨⟩ | exact id | exact And.right | exact And.left | exact (·.1.2) | exact (·.1.1) | exact (·.1.1.1) | exact (·.1.1.2)))
    | (apply Q_not; (refine Ev.of rfl ?_; first | exact fun _ => ⟨⟩ | exact id | exact And.right | exact And.left | exact (·.1.2) | exact (·.1.1) | exact (·.1.1.1) | exact (·.1.1.2)))
    | (apply Q_min; (refine Ev.of rfl ?_; first | exact fun _ => ⟨⟩ | exact id | exact And.right | exact And.left | exact (·.1.2) | exact (·.1.1) | exact (·.1.1.1) | exact (·.1.1.2)); (refine Ev.of rfl ?_; first | exact fun _ => ⟨⟩ | exact id | exact And.right | exact And.left | exact (·.1.2) | exact (·.1.1) | exact (·.1.1.1) | exact (·.1.1.2)))
    | (apply Q_lenm TYok; (refine Ev.of rfl ?_; first | exact fun _ => ⟨⟩ | exact id | exact And.right | exact And.left | exact (·.1.2) | exact (·.1.1) | exact (·.1.1.1) | exact (·.1.1.2)); exact rfl; exact rfl)
    | (apply Q_lend TYok; (refine Ev.of rfl ?_; first | exact fun _ => ⟨⟩ | exact id | exact And.right | exact And.left | exact (·.1.2) | exact (·.1.1) | exact (·.1.1.1) | exact (·.1.1.2)); exact rfl; exact rfl)
    | (apply Q_lenom TYok; (refine Ev.of rfl ?_; first | exact fun _ => ⟨⟩ | exact id | exact And.right | exact And.left | exact (·.1.2) | exact (·.1.1) | exact (·.1.1.1) | exact (·.1.1.2)); exact rfl; exact rfl; exact rfl)
    | (apply Q_len TYok; (refine Ev.of rfl ?_; first | exact fun _ => ⟨⟩ | exact id | exact And.right | exact And.left | exact (·.1.2) | exact (·.1.1) | exact (·.1.1.1) | exact (·.1.1.2)); exact rfl; exact rfl; exact rfl)
    | (apply Q_len0 TYok; (refine Ev.of rfl ?_; first | exact fun _ => ⟨⟩ | exact id | exact And.right | exact And.left | exact (·.1.2) | exact (·.1.1) | exact (·.1.1.1) | exact (·.1.1.2)); exact rfl; exact rfl)
    | (apply Q_lens TYok; (refine Ev.of rfl ?_; first | exact fun _ => ⟨⟩ | exact id | exact And.right | exact And.left | exact (·.1.2) | exact (·.1.1) | exact (·.1.1.1) | exact (·.1.1.2)); exact rfl; exact rfl)
    | (apply Q_indexd TYok; (refine Ev.of rfl ?_; first | exact fun _ => ⟨⟩ | exact id | exact And.right | exact And.left | exact (·.1.2) | exact (·.1.1) | exact (·.1.1.1) | exact (·.1.1.2)); (refine Ev.of rfl ?_; first | exact fun _ => ⟨⟩ | exact id | exact And.right | exact And.left | exact (·.1.2) | exact (·.1.1) | exact (·.1.1.1) | exact (·.1.1.2)); exact rfl; exact rfl; exact rfl; (intro hg; first | exact getRowN (by first | omega | (simp at hg; omega)) | exact getRowI (by first | omega | (simp at hg; omega))); exact rfl)
    | (apply Q_index TYok; (refine Ev.of rfl ?_; first | exact fun _ => ⟨⟩ | exact id | exact And.right | exact And.left | exact (·.1.2) | exact (·.1.1) | exact (·.1.1.1) | exact (·.1.1.2)); (refine Ev.of rfl ?_; first | exact fun _ => ⟨⟩ | exact id | exact And.right | exact And.left | exact (·.1.2) | exact (·.1.1) | exact (·.1.1.1) | exact (·.1.1.2)); exact rfl; exact rfl; exact rfl; exact rfl; exact rfl; (intro hg; first | (simp; omega) | (simp at hg; simp; omega)))
    | (apply Q_binS; (refine Ev.of rfl ?_; first | exact fun _ => ⟨⟩ | exact id | exact And.right | exact And.left | exact (·.1.2) | exact (·.1.1) | exact (·.1.1.1) | exact (·.1.1.2)); (refine Ev.of rfl ?_; first | exact fun _ => ⟨⟩ | exact id | exact And.right | exact And.left | exact (·.1.2) | exact (·.1.1) | exact (·.1.1.1) | exact (·.1.1.2)); exact rfl)
    | (apply Q_binB TYok; (refine Ev.of rfl ?_; first | exact fun _ => ⟨⟩ | exact id | exact And.right | exact And.left | exact (·.1.2) | exact (·.1.1) | exact (·.1.1.1) | exact (·.1.1.2)); (refine Ev.of rfl ?_; first | exact fun _ => ⟨⟩ | exact id | exact And.right | exact And.left | exact (·.1.2) | exact (·.1.1) | exact (·.1.1.1) | exact (·.1.1.2)); exact rfl; exact rfl; exact rfl)
    | (apply Q_extract; (refine Ev.of rfl ?_; first | exact fun _ => ⟨⟩ | exact id | exact And.right | exact And.left | exact (·.1.2) | exact (·.1.1) | exact (·.1.1.1) | exact (·.1.1.2)); exact rfl)
    | (apply Q_call (right_ok b hn); (repeat (first | exact EvL.nil | refine EvL.cons (by refine Ev.of rfl ?_; first | exact fun _ => ⟨⟩ | exact id | exact And.right | exact And.left | exact (·.1.2) | exact (·.1.1) | exact (·.1.1.1) | exact (·.1.1.2)) rfl (by first | exact PSub.rfl' | exact PSub.nil') ?_)); exact rfl)
    | (apply Q_call (facts_ok fs h hl); (repeat (first | exact EvL.nil | refine EvL.cons (by refine Ev.of rfl ?_; first | exact fun _ => ⟨⟩ | exact id | exact And.right | exact And.left | exact (·.1.2) | exact (·.1.1) | exact (·.1.1.1) | exact (·.1.1.2)) rfl (by first | exact PSub.rfl' | exact PSub.nil') ?_)); exact rfl)); exact rfl)
    | (apply S_alloc TYok; exact rfl; exact rfl; exact rfl; exact rfl)
    | (apply S_store TYok; (refine Ev.of rfl ?_; first | exact fun _ => ⟨⟩ | exact id | exact And.right | exact And.left | exact (·.1.2) | exact (·.1.1) | exact (·.1.1.1) | exact (·.1.1.2)); (refine Ev.of rfl ?_; first | exact fun _ => ⟨⟩ | exact id | exact And.right | exact And.left | exact (·.1.2) | exact (·.1.1) | exact (·.1.1.1) | exact (·.1.1.2)); exact rfl; exact rfl; exact rfl; exact rfl; exact rfl)
    | (apply S_storem TYok; (refine Ev.of rfl ?_; first | exact fun _ => ⟨⟩ | exact id | exact And.right | exact And.left | exact (·.1.2) | exact (·.1.1) | exact (·.1.1.1) | exact (·.1.1.2)); (refine Ev.of rfl ?_; first | exact fun _ => ⟨⟩ | exact id | exact And.right | exact And.left | exact (·.1.2) | exact (·.1.1) | exact (·.1.1.1) | exact (·.1.1.2)); exact rfl; exact rfl; (first | omega | (simp; omega)); exact rfl; (intro z; exact rfl))
    | (apply S_box; (refine Ev.of rfl ?_; first | exact fun _ => ⟨⟩ | exact id | exact And.right | exact And.left | exact (·.1.2) | exact (·.1.1) | exact (·.1.1.1) | exact (·.1.1.2)); exact rfl; exact rfl; exact rfl)
    | (apply S_makeMap TYok 0; exact rfl; exact rfl)
    | (apply S_isnil TYok; exact rfl; exact rfl; exact rfl; (refine Ev.of rfl ?_; first | exact fun _ => ⟨⟩ | exact id | exact And.right | exact And.left | exact (·.1.2) | exact (·.1.1) | exact (·.1.1.1) | exact (·.1.1.2)); intro bn hnil)
    | (apply RG.gT; exact rfl; exact rfl; (first | assumption | decide))
    | (apply RG.gF; exact rfl; exact rfl; (first | assumption | decide); exact rfl)
    | (refine W.cond (by refine Ev.of rfl ?_; first | exact fun _ => ⟨⟩ | exact id | exact And.right | exact And.left | exact (·.1.2) | exact (·.1.1) | exact (·.1.1.1) | exact (·.1.1.2)) (fun hb => ?_) (fun hb => ?_) <;> (try simp at hb) <;> (try (exfalso; omega))))
  · have e : sizeOk b fs i d = false := by
      rcases hb with ((((h | h) | h) | h) | h) | h
      · simp [sizeOk, h]
      · simp [sizeOk, h]
      · simp [sizeOk, inF, show ¬ (0 ≤ i) by omega]
      · simp [sizeOk, inF, show ¬ (i ≤ 59) by omega]
      · simp [sizeOk, inF, show ¬ (0 ≤ d) by omega]
      · simp [sizeOk, inF, show ¬ (d ≤ 200000) by omega]
    have e2 : sizeF b fs i d = (0, 1) := by simp [sizeF, e]
    rw [e2]
    exact Fin.ret (by repeat (first | exact ResL.nil | refine ResL.cons rfl rfl (by first | exact PSub.rfl' | exact PSub.nil' | (refine PSub.of_eq ?_; simp; done) | (refine PSub.of_eq ?_; simp only [List.map_append, List.map_cons, List.map_nil]; rfl) | (refine PSub.of_eq ?_; simp; rfl)) ?_))
  have hok : sizeOk b fs i d = true := by
    obtain ⟨⟨⟨⟨⟨g1, g2⟩, g3⟩, g4⟩, g5⟩, g6⟩ := hb
    simp [sizeOk, inF, g1, g2, g3, g5, g6]
    omega
  have e2 : sizeF b fs i d = (sizeV b (sumF b fs i d), 0) := by simp [sizeF, hok]
  have hval := facts_val hb.1.1.1.1.2
  have hr : 0 ≤ b.start ∧ b.start ≤ 1000000000000000 ∧ 0 ≤ b.share ∧ b.share ≤ 1000 := by
    have := hb.1.1.1.1.1
    simp [rightF, amountF] at this; omega
  apply W.loopP (σ := Nat) 102 [2, 3, 4, 10, 43, 44] (fun k => k ≤ fs.length) (fun k => [(45, vI k)]) (fun k => [(4, ⟨23, 4, [encB b]⟩), (42, ⟨mapTag, 0, (bld (fun f => aboutF b f i d) [] (fs.take k)).map (mrow kI cellI)⟩)]) (fun k => fs.length - k) (0)
  case hp => repeat (first | exact Pick.nil | apply Pick.cons rfl)
  case h0 =>
    refine ⟨by simp, ?_⟩
    refine Le.mkR rfl rfl ?_ ?_ ?_ rfl
    · repeat (first | exact SubR.nil | apply SubR.p rfl (by first | rfl | (simp; done) | (congr 3; omega) | (congr 3; simp; omega)) | apply SubR.s rfl rfl rfl | apply SubR.a rfl rfl rfl | apply SubR.t rfl rfl | apply SubR.m rfl rfl rfl | apply SubR.i rfl rfl rfl rfl rfl)
    · repeat (first | exact SubR.nil | apply SubR.p rfl (by first | rfl | (simp; done) | (congr 3; omega) | (congr 3; simp; omega)) | apply SubR.s rfl rfl rfl | apply SubR.a rfl rfl rfl | apply SubR.t rfl rfl | apply SubR.m rfl rfl rfl | apply SubR.i rfl rfl rfl rfl rfl)
    · repeat (first | exact SubBR.nil | apply SubBR.cons rfl (by first | rfl | (simp only [List.map_append, List.map_replicate, List.map_cons, List.map_nil]; rfl) | (simp; done)))
  case round =>
    rintro k h1
    apply W.norm (by repeat (first | exact App.nil | apply App.cons))
    by_cases hk : k < fs.length
    · skip
      repeat' (first
        | apply RG.nil
        | apply Lex.nil
        | apply Then.n
        | apply Then.r
        | apply Then.x
        | apply InBlock.n
        | apply InBlock.r
        | apply InBlock.hit
        | (apply InBlock.miss; exact rfl)
        | apply W.seq
        | apply W.region
        | apply W.block
        | apply W.skip
        | apply W.ret
        | apply W.exit
        | ((first | apply U_ | (apply Ug_; exact rfl; exact rfl) | (apply Ugq_; exact rfl; exact rfl)); (first
    | (apply Q_move; (refine Ev.of rfl ?_; first | exact fun _ => ⟨⟩ | exact id | exact And.right | exact And.left | exact (·.1.2) | exact (·.1.1) | exact (·.1.1.1) | exact (·.1.1.2)))
    | (apply Q_assign; (refine Ev.of rfl ?_; first | exact fun _ => ⟨⟩ | exact id | exact And.right | exact And.left | exact (·.1.2) | exact (·.1.1) | exact (·.1.1.1) | exact (·.1.1.2)))
    | (apply Q_fieldp TYok; (refine Ev.of rfl ?_; first | exact fun _ => ⟨⟩ | exact id | exact And.right | exact And.left | exact (·.1.2) | exact (·.1.1) | exact (·.1.1.1) | exact (·.1.1.2)); exact rfl; exact rfl; exact rfl; exact rfl; exact rfl)
    | (apply Q_field TYok; (refine Ev.of rfl ?_; first | exact fun _ => ⟨⟩ | exact id | exact And.right | exact And.left | exact (·.1.2) | exact (·.1.1) | exact (·.1.1.1) | exact (·.1.1.2)); exact rfl; exact rfl; exact rfl; exact rfl; exact rfl)
    | (apply Q_loadp TYok; exact rfl; exact rfl; (refine Ev.of rfl ?_; first | exact fun _ => ⟨⟩ | exact id | exact And.right | exact And.left | exact (·.1.2) | exact (·.1.1) | exact (·.1.1.1) | exact (·.1.1.2)); exact rfl)
    | (apply Q_load TYok; exact rfl; exact rfl; (refine Ev.of rfl ?_; first | exact fun _ => ⟨⟩ | exact id | exact And.right | exact And.left | exact (·.1.2) | exact (·.1.1) | exact (·.1.1.1) | exact (·.1.1.2)); exact rfl; exact rfl; exact rfl)
    | (apply Q_loadm TYok; exact rfl; exact rfl; (refine Ev.of rfl ?_; first | exact fun _ => ⟨⟩ | exact id | exact And.right | exact And.left | exact (·.1.2) | exact (·.1.1) | exact (·.1.1.1) | exact (·.1.1.2)); exact rfl; (intro hg; first | omega | (simp; omega) | (simp at hg; simp; omega)); exact rfl; infer_instance)
    | (apply Q_loadpa TYok; exact rfl; exact rfl; (refine Ev.of rfl ?_; first | exact fun _ => ⟨⟩ | exact id | exact And.right | exact And.left | exact (·.1.2) | exact (·.1.1) | exact (·.1.1.1) | exact (·.1.1.2)); exact rfl)
    | (apply Q_loada TYok; exact rfl; exact rfl; (refine Ev.of rfl ?_; first | exact fun _ => ⟨⟩ | exact id | exact And.right | exact And.left | exact (·.1.2) | exact (·.1.1) | exact (·.1.1.1) | exact (·.1.1.2)); exact rfl; exact rfl; exact rfl)
    | (apply Q_loadma TYok; exact rfl; exact rfl; (refine Ev.of rfl ?_; first | exact fun _ => ⟨⟩ | exact id | exact And.right | exact And.left | exact (·.1.2) | exact (·.1.1) | exact (·.1.1.1) | exact (·.1.1.2)); exact rfl; (intro hg; first | omega | (simp; omega) | (simp at hg; simp; omega)); exact rfl; infer_instance)
    | (apply Q_add; (refine Ev.of rfl ?_; first | exact fun _ => ⟨⟩ | exact id | exact And.right | exact And.left | exact (·.1.2) | exact (·.1.1) | exact (·.1.1.1) | exact (·.1.1.2)); (refine Ev.of rfl ?_; first | exact fun _ => ⟨⟩ | exact id | exact And.right | exact And.left | exact (·.1.2) | exact (·.1.1) | exact (·.1.1.1) | exact (·.1.1.2)); (first | omega | (constructor <;> omega)))
    | (apply Q_mul; (refine Ev.of rfl ?_; first | exact fun _ => ⟨⟩ | exact id | exact And.right | exact And.left | exact (·.1.2) | exact (·.1.1) | exact (·.1.1.1) | exact (·.1.1.2)); (refine Ev.of rfl ?_; first | exact fun _ => ⟨⟩ | exact id | exact And.right | exact And.left | exact (·.1.2) | exact (·.1.1) | exact (·.1.1.1) | exact (·.1.1.2)); (first | omega | (constructor <;> omega)))
    | (apply Q_quoN; (refine Ev.of rfl ?_; first | exact fun _ => ⟨⟩ | exact id | exact And.right | exact And.left | exact (·.1.2) | exact (·.1.1) | exact (·.1.1.1) | exact (·.1.1.2)); (refine Ev.of rfl ?_; first | exact fun _ => ⟨⟩ | exact id | exact And.right | exact And.left | exact (·.1.2) | exact (·.1.1) | exact (·.1.1.1) | exact (·.1.1.2)); (first | omega | (constructor <;> omega)))
    | (apply Q_remN; (refine Ev.of rfl ?_; first | exact fun _ => ⟨⟩ | exact id | exact And.right | exact And.left | exact (·.1.2) | exact (·.1.1) | exact (·.1.1.1) | exact (·.1.1.2)); (refine Ev.of rfl ?_; first | exact fun _ => ⟨⟩ | exact id | exact And.right | exact And.left | exact (·.1.2) | exact (·.1.1) | exact (·.1.1.1) | exact (·.1.1.2)); (first | omega | (constructor <;> omega)))
    | (apply Q_bin; (refine Ev.of rfl ?_; first | exact fun _ => ⟨⟩ | exact id | exact And.right | exact And.left | exact (·.1.2) | exact (·.1.1) | exact (·.1.1.1) | exact (·.1.1.2)); (refine Ev.of rfl ?_; first | exact fun _ => ⟨⟩ | exact id | exact And.right | exact And.left | exact (·.1.2) | exact (·.1.1) | exact (·.1.1.1) | exact (·.1.1.2)); exact rfl)
    | (apply Q_or; (refine Ev.of rfl ?_; first | exact fun _ => ⟨⟩ | exact id | exact And.right | exact And.left | exact (·.1.2) | exact (·.1.1) | exact (·.1.1.1) | exact (·.1.1.2)); (refine Ev.of rfl ?_; first | exact fun _ => ⟨⟩ | exact id | exact And.right | exact And.left | exact (·.1.2) | exact (·.1.1) | exact (·.1.1.1) | exact (·.1.1.2)))
    | (apply Q_and; (refine Ev.of rfl ?_; first | exact fun _ => ⟨⟩ | exact id | exact And.right | exact And.left | exact (·.1.2) | exact (·.1.1) | exact (·.1.1.1) | exact (·.1.1.2)); (refine Ev.of rfl ?_; first | exact fun _ => ⟨⟩ | exact id | exact And.right | exact And.left | exact (·.1.2) | exact (·.1.1) | exact (·.1.1.1) | exact (·.1.1.2)))
    | (apply Q_not; (refine Ev.of rfl ?_; first | exact fun _ => ⟨⟩ | exact id | exact And.right | exact And.left | exact (·.1.2) | exact (·.1.1) | exact (·.1.1.1) | exact (·.1.1.2)))
    | (apply Q_min; (refine Ev.of rfl ?_; first | exact fun _ => ⟨⟩ | exact id | exact And.right | exact And.left | exact (·.1.2) | exact (·.1.1) | exact (·.1.1.1) | exact (·.1.1.2)); (refine Ev.of rfl ?_; first | exact fun _ => ⟨⟩ | exact id | exact And.right | exact And.left | exact (·.1.2) | exact (·.1.1) | exact (·.1.1.1) | exact (·.1.1.2)))
    | (apply Q_lenm TYok; (refine Ev.of rfl ?_; first | exact fun _ => ⟨⟩ | exact id | exact And.right | exact And.left | exact (·.1.2) | exact (·.1.1) | exact (·.1.1.1) | exact (·.1.1.2)); exact rfl; exact rfl)
    | (apply Q_lend TYok; (refine Ev.of rfl ?_; first | exact fun _ => ⟨⟩ | exact id | exact And.right | exact And.left | exact (·.1.2) | exact (·.1.1) | exact (·.1.1.1) | exact (·.1.1.2)); exact rfl; exact rfl)
    | (apply Q_lenom TYok; (refine Ev.of rfl ?_; first | exact fun _ => ⟨⟩ | exact id | exact And.right | exact And.left | exact (·.1.2) | exact (·.1.1) | exact (·.1.1.1) | exact (·.1.1.2)); exact rfl; exact rfl; exact rfl)
    | (apply Q_len TYok; (refine Ev.of rfl ?_; first | exact fun _ => ⟨⟩ | exact id | exact And.right | exact And.left | exact (·.1.2) | exact (·.1.1) | exact (·.1.1.1) | exact (·.1.1.2)); exact rfl; exact rfl; exact rfl)
    | (apply Q_len0 TYok; (refine Ev.of rfl ?_; first | exact fun _ => ⟨⟩ | exact id | exact And.right | exact And.left | exact (·.1.2) | exact (·.1.1) | exact (·.1.1.1) | exact (·.1.1.2)); exact rfl; exact rfl)
    | (apply Q_lens TYok; (refine Ev.of rfl ?_; first | exact fun _ => ⟨⟩ | exact id | exact And.right | exact And.left | exact (·.1.2) | exact (·.1.1) | exact (·.1.1.1) | exact (·.1.1.2)); exact rfl; exact rfl)
    | (apply Q_indexd TYok; (refine Ev.of rfl ?_; first | exact fun _ => ⟨⟩ | exact id | exact And.right | exact And.left | exact (·.1.2) | exact (·.1.1) | exact (·.1.1.1) | exact (·.1.1.2)); (refine Ev.of rfl ?_; first | exact fun _ => ⟨⟩ | exact id | exact And.right | exact And.left | exact (·.1.2) | exact (·.1.1) | exact (·.1.1.1) | exact (·.1.1.2)); exact rfl; exact rfl; exact rfl; (intro hg; first | exact getRowN (by first | omega | (simp at hg; omega)) | exact getRowI (by first | omega | (simp at hg; omega))); exact rfl)
    | (apply Q_index TYok; (refine Ev.of rfl ?_; first | exact fun _ => ⟨⟩ | exact id | exact And.right | exact And.left | exact (·.1.2) | exact (·.1.1) | exact (·.1.1.1) | exact (·.1.1.2)); (refine Ev.of rfl ?_; first | exact fun _ => ⟨⟩ | exact id | exact And.right | exact And.left | exact (·.1.2) | exact (·.1.1) | exact (·.1.1.1) | exact (·.1.1.2)); exact rfl; exact rfl; exact rfl; exact rfl; exact rfl; (intro hg; first | (simp; omega) | (simp at hg; simp; omega)))
    | (apply Q_binS; (refine Ev.of rfl ?_; first | exact fun _ => ⟨⟩ | exact id | exact And.right | exact And.left | exact (·.1.2) | exact (·.1.1) | exact (·.1.1.1) | exact (·.1.1.2)); (refine Ev.of rfl ?_; first | exact fun _ => ⟨⟩ | exact id | exact And.right | exact And.left | exact (·.1.2) | exact (·.1.1) | exact (·.1.1.1) | exact (·.1.1.2)); exact rfl)
    | (apply Q_binB TYok; (refine Ev.of rfl ?_; first | exact fun _ => ⟨⟩ | exact id | exact And.right | exact And.left | exact (·.1.2) | exact (·.1.1) | exact (·.1.1.1) | exact (·.1.1.2)); (refine Ev.of rfl ?_; first | exact fun _ => ⟨⟩ | exact id | exact And.right | exact And.left | exact (·.1.2) | exact (·.1.1) | exact (·.1.1.1) | exact (·.1.1.2)); exact rfl; exact rfl; exact rfl)
    | (apply Q_extract; (refine Ev.of rfl ?_; first | exact fun _ => ⟨⟩ | exact id | exact And.right | exact And.left | exact (·.1.2) | exact (·.1.1) | exact (·.1.1.1) | exact (·.1.1.2)); exact rfl)); exact rfl)
        | (apply S_alloc TYok; exact rfl; exact rfl; exact rfl; exact rfl)
        | (apply S_store TYok; (refine Ev.of rfl ?_; first | exact fun _ => ⟨⟩ | exact id | exact And.right | exact And.left | exact (·.1.2) | exact (·.1.1) | exact (·.1.1.1) | exact (·.1.1.2)); (refine Ev.of rfl ?_; first | exact fun _ => ⟨⟩ | exact id | exact And.right | exact And.left | exact (·.1.2) | exact (·.1.1) | exact (·.1.1.1) | exact (·.1.1.2)); exact rfl; exact rfl; exact rfl; exact rfl; exact rfl)
        | (apply S_storem TYok; (refine Ev.of rfl ?_; first | exact fun _ => ⟨⟩ | exact id | exact And.right | exact And.left | exact (·.1.2) | exact (·.1.1) | exact (·.1.1.1) | exact (·.1.1.2)); (refine Ev.of rfl ?_; first | exact fun _ => ⟨⟩ | exact id | exact And.right | exact And.left | exact (·.1.2) | exact (·.1.1) | exact (·.1.1.1) | exact (·.1.1.2)); exact rfl; exact rfl; (first | omega | (simp; omega)); exact rfl; (intro z; exact rfl))
        | (apply S_box; (refine Ev.of rfl ?_; first | exact fun _ => ⟨⟩ | exact id | exact And.right | exact And.left | exact (·.1.2) | exact (·.1.1) | exact (·.1.1.1) | exact (·.1.1.2)); exact rfl; exact rfl; exact rfl)
        | (apply S_mapUpdate TYok KI (vc := cellI); (refine Ev.of rfl ?_; first | exact fun _ => ⟨⟩ | exact id | exact And.right | exact And.left | exact (·.1.2) | exact (·.1.1) | exact (·.1.1.1) | exact (·.1.1.2)); exact rfl; (refine Ev.of rfl ?_; first | exact fun _ => ⟨⟩ | exact id | exact And.right | exact And.left | exact (·.1.2) | exact (·.1.1) | exact (·.1.1.1) | exact (·.1.1.2)); (refine Ev.of rfl ?_; first | exact fun _ => ⟨⟩ | exact id | exact And.right | exact And.left | exact (·.1.2) | exact (·.1.1) | exact (·.1.1.1) | exact (·.1.1.2)); exact rfl; exact rfl; exact rfl)
        | (apply S_isnil TYok; exact rfl; exact rfl; exact rfl; (refine Ev.of rfl ?_; first | exact fun _ => ⟨⟩ | exact id | exact And.right | exact And.left | exact (·.1.2) | exact (·.1.1) | exact (·.1.1.1) | exact (·.1.1.2)); intro bn hnil)
        | (apply RG.gT; exact rfl; exact rfl; (first | assumption | decide))
        | (apply RG.gF; exact rfl; exact rfl; (first | assumption | decide); exact rfl)
        | (refine W.cond (by refine Ev.of rfl ?_; first | exact fun _ => ⟨⟩ | exact id | exact And.right | exact And.left | exact (·.1.2) | exact (·.1.1) | exact (·.1.1.1) | exact (·.1.1.2)) (fun hb => ?_) (fun hb => ?_) <;> (try simp at hb) <;> (try (exfalso; omega))))
      · have e : bld (fun f => aboutF b f i d) [] (fs.take (k + 1)) = mput (bld (fun f => aboutF b f i d) [] (fs.take k)) (nth fs k).period (nth fs k).value := by
          rw [bld_take hk, if_pos]; simp [aboutF, hb.1.1, hb.1.2, hb.2]
        refine ⟨k + 1, by omega, ?_, ?_⟩
        · simp only [e]
          refine Le.mkR rfl rfl ?_ ?_ ?_ rfl
          · repeat (first | exact SubR.nil | apply SubR.p rfl (by first | rfl | (simp; done) | (congr 3; omega) | (congr 3; simp; omega)) | apply SubR.s rfl rfl rfl | apply SubR.a rfl rfl rfl | apply SubR.t rfl rfl | apply SubR.m rfl rfl rfl | apply SubR.i rfl rfl rfl rfl rfl)
          · repeat (first | exact SubR.nil | apply SubR.p rfl (by first | rfl | (simp; done) | (congr 3; omega) | (congr 3; simp; omega)) | apply SubR.s rfl rfl rfl | apply SubR.a rfl rfl rfl | apply SubR.t rfl rfl | apply SubR.m rfl rfl rfl | apply SubR.i rfl rfl rfl rfl rfl)
          · repeat (first | exact SubBR.nil | apply SubBR.cons rfl (by first | rfl | (simp only [List.map_append, List.map_replicate, List.map_cons, List.map_nil]; rfl) | (simp; done)))
        · (try simp only); omega
      · have e : bld (fun f => aboutF b f i d) [] (fs.take (k + 1)) = bld (fun f => aboutF b f i d) [] (fs.take k) := by
          rw [bld_take hk, if_neg]
          simp [aboutF]
          intro q1 q2
          exact hb q1 q2
        refine ⟨k + 1, by omega, ?_, ?_⟩
        · simp only [e]
          refine Le.mkR rfl rfl ?_ ?_ ?_ rfl
          · repeat (first | exact SubR.nil | apply SubR.p rfl (by first | rfl | (simp; done) | (congr 3; omega) | (congr 3; simp; omega)) | apply SubR.s rfl rfl rfl | apply SubR.a rfl rfl rfl | apply SubR.t rfl rfl | apply SubR.m rfl rfl rfl | apply SubR.i rfl rfl rfl rfl rfl)
          · repeat (first | exact SubR.nil | apply SubR.p rfl (by first | rfl | (simp; done) | (congr 3; omega) | (congr 3; simp; omega)) | apply SubR.s rfl rfl rfl | apply SubR.a rfl rfl rfl | apply SubR.t rfl rfl | apply SubR.m rfl rfl rfl | apply SubR.i rfl rfl rfl rfl rfl)
          · repeat (first | exact SubBR.nil | apply SubBR.cons rfl (by first | rfl | (simp only [List.map_append, List.map_replicate, List.map_cons, List.map_nil]; rfl) | (simp; done)))
        · (try simp only); omega
    · obtain rfl : k = fs.length := by omega
      rw [List.take_length]
      have hM : ∀ e ∈ bld (fun f => aboutF b f i d) [] fs, 0 ≤ e.2 ∧ e.2 ≤ 1000000000000000 := bld_vals (v := fun n => 0 ≤ n ∧ n ≤ 1000000000000000) hval (fun e he => by cases he)
      have htot := bld_last (fun f => aboutF b f i d) fs
      generalize bld (fun f => aboutF b f i d) [] fs = M at hM htot
      repeat' (first
        | apply RG.nil
        | apply Lex.nil
        | apply Then.n
        | apply Then.r
        | apply Then.x
        | apply InBlock.n
        | apply InBlock.r
        | apply InBlock.hit
        | (apply InBlock.miss; exact rfl)
        | apply W.seq
        | apply W.region
        | apply W.block
        | apply W.skip
        | apply W.ret
        | apply W.exit
        | ((first | apply U_ | (apply Ug_; exact rfl; exact rfl) | (apply Ugq_; exact rfl; exact rfl)); (first
    | (apply Q_move; (refine Ev.of rfl ?_; first | exact fun _ => ⟨⟩ | exact id | exact And.right | exact And.left | exact (·.1.2) | exact (·.1.1) | exact (·.1.1.1) | exact (·.1.1.2)))
    | (apply Q_assign; (refine Ev.of rfl ?_; first | exact fun _ => ⟨⟩ | exact id | exact And.right | exact And.left | exact (·.1.2) | exact (·.1.1) | exact (·.1.1.1) | exact (·.1.1.2)))
    | (apply Q_fieldp TYok; (refine Ev.of rfl ?_; first | exact fun _ => ⟨⟩ | exact id | exact And.right | exact And.left | exact (·.1.2) | exact (·.1.1) | exact (·.1.1.1) | exact (·.1.1.2)); exact rfl; exact rfl; exact rfl; exact rfl; exact rfl)
    | (apply Q_field TYok; (refine Ev.of rfl ?_; first | exact fun _ => ⟨⟩ | exact id | exact And.right | exact And.left | exact (·.1.2) | exact (·.1.1) | exact (·.1.1.1) | exact (·.1.1.2)); exact rfl; exact rfl; exact rfl; exact rfl; exact rfl)
    | (apply Q_loadp TYok; exact rfl; exact rfl; (refine Ev.of rfl ?_; first | exact fun _ => ⟨⟩ | exact id | exact And.right | exact And.left | exact (·.1.2) | exact (·.1.1) | exact (·.1.1.1) | exact (·.1.1.2)); exact rfl)
    | (apply Q_load TYok; exact rfl; exact rfl; (refine Ev.of rfl ?_; first | exact fun _ => ⟨⟩ | exact id | exact And.right | exact And.left | exact (·.1.2) | exact (·.1.1) | exact (·.1.1.1) | exact (·.1.1.2)); exact rfl; exact rfl; exact rfl)
    | (apply Q_loadm TYok; exact rfl; exact rfl; (refine Ev.of rfl ?_; first | exact fun _ => ⟨⟩ | exact id | exact And.right | exact And.left | exact (·.1.2) | exact (·.1.1) | exact (·.1.1.1) | exact (·.1.1.2)); exact rfl; (intro hg; first | omega | (simp; omega) | (simp at hg; simp; omega)); exact rfl; infer_instance)
    | (apply Q_loadpa TYok; exact rfl; exact rfl; (refine Ev.of rfl ?_; first | exact fun _ => ⟨⟩ | exact id | exact And.right | exact And.left | exact (·.1.2) | exact (·.1.1) | exact (·.1.1.1) | exact (·.1.1.2)); exact rfl)
    | (apply Q_loada TYok; exact rfl; exact rfl; (refine Ev.of rfl ?_; first | exact fun _ => ⟨⟩ | exact id | exact And.right | exact And.left | exact (·.1.2) | exact (·.1.1) | exact (·.1.1.1) | exact (·.1.1.2)); exact rfl; exact rfl; exact rfl)
    | (apply Q_loadma TYok; exact rfl; exact rfl; (refine Ev.of rfl ?_; first | exact fun _ => ⟨⟩ | exact id | exact And.right | exact And.left | exact (·.1.2) | exact (·.1.1) | exact (·.1.1.1) | exact (·.1.1.2)); exact rfl; (intro hg; first | omega | (simp; omega) | (simp at hg; simp; omega)); exact rfl; infer_instance)
    | (apply Q_add; (refine Ev.of rfl ?_; first | exact fun _ => ⟨⟩ | exact id | exact And.right | exact And.left | exact (·.1.2) | exact (·.1.1) | exact (·.1.1.1) | exact (·.1.1.2)); (refine Ev.of rfl ?_; first | exact fun _ => ⟨⟩ | exact id | exact And.right | exact And.left | exact (·.1.2) | exact (·.1.1) | exact (·.1.1.1) | exact (·.1.1.2)); (first | omega | (constructor <;> omega)))
    | (apply Q_mul; (refine Ev.of rfl ?_; first | exact fun _ => ⟨⟩ | exact id | exact And.right | exact And.left | exact (·.1.2) | exact (·.1.1) | exact (·.1.1.1) | exact (·.1.1.2)); (refine Ev.of rfl ?_; first | exact fun _ => ⟨⟩ | exact id | exact And.right | exact And.left | exact (·.1.2) | exact (·.1.1) | exact (·.1.1.1) | exact (·.1.1.2)); (first | omega | (constructor <;> omega)))
    | (apply Q_quoN; (refine Ev.of rfl ?_; first | exact fun _ => ⟨⟩ | exact id | exact And.right | exact And.left | exact (·.1.2) | exact (·.1.1) | exact (·.1.1.1) | exact (·.1.1.2)); (refine Ev.of rfl ?_; first | exact fun _ => ⟨⟩ | exact id | exact And.right | exact And.left | exact (·.1.2) | exact (·.1.1) | exact (·.1.1.1) | exact (·.1.1.2)); (first | omega | (constructor <;> omega)))
    | (apply Q_remN; (refine Ev.of rfl ?_; first | exact fun _ => ⟨⟩ | exact id | exact And.right | exact And.left | exact (·.1.2) | exact (·.1.1) | exact (·.1.1.1) | exact (·.1.1.2)); (refine Ev.of rfl ?_; first | exact fun _ => ⟨⟩ | exact id | exact And.right | exact And.left | exact (·.1.2) | exact (·.1.1) | exact (·.1.1.1) | exact (·.1.1.2)); (first | omega | (constructor <;> omega)))
    | (apply Q_bin; (refine Ev.of rfl ?_; first | exact fun _ => ⟨⟩ | exact id | exact And.right | exact And.left | exact (·.1.2) | exact (·.1.1) | exact (·.1.1.1) | exact (·.1.1.2)); (refine Ev.of rfl ?_; first | exact fun _ => ⟨⟩ | exact id | exact And.right | exact And.left | exact (·.1.2) | exact (·.1.1) | exact (·.1.1.1) | exact (·.1.1.2)); exact rfl)
    | (apply Q_or; (refine Ev.of rfl ?_; first | exact fun _ => ⟨⟩ | exact id | exact And.right | exact And.left | exact (·.1.2) | exact (·.1.1) | exact (·.1.1.1) | exact (·.1.1.2)); (refine Ev.of rfl ?_; first | exact fun _ => ⟨⟩ | exact id | exact And.right | exact And.left | exact (·.1.2) | exact (·.1.1) | exact (·.1.1.1) | exact (·.1.1.2)))
    | (apply Q_and; (refine Ev.of rfl ?_; first | exact fun _ => ⟨⟩ | exact id | exact And.right | exact And.left | exact (·.1.2) | exact (·.1.1) | exact (·.1.1.1) | exact (·.1.1.2)); (refine Ev.of rfl ?_; first | exact fun _ => ⟨⟩ | exact id | exact And.right | exact And.left | exact (·.1.2) | exact (·.1.1) | exact (·.1.1.1) | exact (·.1.1.2)))
    | (apply Q_not; (refine Ev.of rfl ?_; first | exact fun _ => ⟨⟩ | exact id | exact And.right | exact And.left | exact (·.1.2) | exact (·.1.1) | exact (·.1.1.1) | exact (·.1.1.2)))
    | (apply Q_min; (refine Ev.of rfl ?_; first | exact fun _ => ⟨⟩ | exact id | exact And.right | exact And.left | exact (·.1.2) | exact (·.1.1) | exact (·.1.1.1) | exact (·.1.1.2)); (refine Ev.of rfl ?_; first | exact fun _ => ⟨⟩ | exact id | exact And.right | exact And.left | exact (·.1.2) | exact (·.1.1) | exact (·.1.1.1) | exact (·.1.1.2)))
    | (apply Q_lenm TYok; (refine Ev.of rfl ?_; first | exact fun _ => ⟨⟩ | exact id | exact And.right | exact And.left | exact (·.1.2) | exact (·.1.1) | exact (·.1.1.1) | exact (·.1.1.2)); exact rfl; exact rfl)
    | (apply Q_lend TYok; (refine Ev.of rfl ?_; first | exact fun _ => ⟨⟩ | exact id | exact And.right | exact And.left | exact (·.1.2) | exact (·.1.1) | exact (·.1.1.1) | exact (·.1.1.2)); exact rfl; exact rfl)
    | (apply Q_lenom TYok; (refine Ev.of rfl ?_; first | exact fun _ => ⟨⟩ | exact id | exact And.right | exact And.left | exact (·.1.2) | exact (·.1.1) | exact (·.1.1.1) | exact (·.1.1.2)); exact rfl; exact rfl; exact rfl)
    | (apply Q_len TYok; (refine Ev.of rfl ?_; first | exact fun _ => ⟨⟩ | exact id | exact And.right | exact And.left | exact (·.1.2) | exact (·.1.1) | exact (·.1.1.1) | exact (·.1.1.2)); exact rfl; exact rfl; exact rfl)
    | (apply Q_len0 TYok; (refine Ev.of rfl ?_; first | exact fun _ => ⟨⟩ | exact id | exact And.right | exact And.left | exact (·.1.2) | exact (·.1.1) | exact (·.1.1.1) | exact (·.1.1.2)); exact rfl; exact rfl)
    | (apply Q_lens TYok; (refine Ev.of rfl ?_; first | exact fun _ => ⟨⟩ | exact id | exact And.right | exact And.left | exact (·.1.2) | exact (·.1.1) | exact (·.1.1.1) | exact (·.1.1.2)); exact rfl; exact rfl)
    | (apply Q_indexd TYok; (refine Ev.of rfl ?_; first | exact fun _ => ⟨⟩ | exact id | exact And.right | exact And.left | exact (·.1.2) | exact (·.1.1) | exact (·.1.1.1) | exact (·.1.1.2)); (refine Ev.of rfl ?_; first | exact fun _ => ⟨⟩ | exact id | exact And.right | exact And.left | exact (·.1.2) | exact (·.1.1) | exact (·.1.1.1) | exact (·.1.1.2)); exact rfl; exact rfl; exact rfl; (intro hg; first | exact getRowN (by first | omega | (simp at hg; omega)) | exact getRowI (by first | omega | (simp at hg; omega))); exact rfl)
    | (apply Q_index TYok; (refine Ev.of rfl ?_; first | exact fun _ => ⟨⟩ | exact id | exact And.right | exact And.left | exact (·.1.2) | exact (·.1.1) | exact (·.1.1.1) | exact (·.1.1.2)); (refine Ev.of rfl ?_; first | exact fun _ => ⟨⟩ | exact id | exact And.right | exact And.left | exact (·.1.2) | exact (·.1.1) | exact (·.1.1.1) | exact (·.1.1.2)); exact rfl; exact rfl; exact rfl; exact rfl; exact rfl; (intro hg; first | (simp; omega) | (simp at hg; simp; omega)))
    | (apply Q_binS; (refine Ev.of rfl ?_; first | exact fun _ => ⟨⟩ | exact id | exact And.right | exact And.left | exact (·.1.2) | exact (·.1.1) | exact (·.1.1.1) | exact (·.1.1.2)); (refine Ev.of rfl ?_; first | exact fun _ => ⟨⟩ | exact id | exact And.right | exact And.left | exact (·.1.2) | exact (·.1.1) | exact (·.1.1.1) | exact (·.1.1.2)); exact rfl)
    | (apply Q_binB TYok; (refine Ev.of rfl ?_; first | exact fun _ => ⟨⟩ | exact id | exact And.right | exact And.left | exact (·.1.2) | exact (·.1.1) | exact (·.1.1.1) | exact (·.1.1.2)); (refine Ev.of rfl ?_; first | exact fun _ => ⟨⟩ | exact id | exact And.right | exact And.left | exact (·.1.2) | exact (·.1.1) | exact (·.1.1.1) | exact (·.1.1.2)); exact rfl; exact rfl; exact rfl)
    | (apply Q_extract; (refine Ev.of rfl ?_; first | exact fun _ => ⟨⟩ | exact id | exact And.right | exact And.left | exact (·.1.2) | exact (·.1.1) | exact (·.1.1.1) | exact (·.1.1.2)); exact rfl)); exact rfl)
        | (apply S_alloc TYok; exact rfl; exact rfl; exact rfl; exact rfl)
        | (apply S_store TYok; (refine Ev.of rfl ?_; first | exact fun _ => ⟨⟩ | exact id | exact And.right | exact And.left | exact (·.1.2) | exact (·.1.1) | exact (·.1.1.1) | exact (·.1.1.2)); (refine Ev.of rfl ?_; first | exact fun _ => ⟨⟩ | exact id | exact And.right | exact And.left | exact (·.1.2) | exact (·.1.1) | exact (·.1.1.1) | exact (·.1.1.2)); exact rfl; exact rfl; exact rfl; exact rfl; exact rfl)
        | (apply S_storem TYok; (refine Ev.of rfl ?_; first | exact fun _ => ⟨⟩ | exact id | exact And.right | exact And.left | exact (·.1.2) | exact (·.1.1) | exact (·.1.1.1) | exact (·.1.1.2)); (refine Ev.of rfl ?_; first | exact fun _ => ⟨⟩ | exact id | exact And.right | exact And.left | exact (·.1.2) | exact (·.1.1) | exact (·.1.1.1) | exact (·.1.1.2)); exact rfl; exact rfl; (first | omega | (simp; omega)); exact rfl; (intro z; exact rfl))
        | (apply S_box; (refine Ev.of rfl ?_; first | exact fun _ => ⟨⟩ | exact id | exact And.right | exact And.left | exact (·.1.2) | exact (·.1.1) | exact (·.1.1.1) | exact (·.1.1.2)); exact rfl; exact rfl; exact rfl)
        | (apply S_range TYok; (refine Ev.of rfl ?_; first | exact fun _ => ⟨⟩ | exact id | exact And.right | exact And.left | exact (·.1.2) | exact (·.1.1) | exact (·.1.1.1) | exact (·.1.1.2)); exact rfl; exact rfl; exact rfl; exact rfl; exact rfl; exact rfl; intro bi)
        | (apply S_isnil TYok; exact rfl; exact rfl; exact rfl; (refine Ev.of rfl ?_; first | exact fun _ => ⟨⟩ | exact id | exact And.right | exact And.left | exact (·.1.2) | exact (·.1.1) | exact (·.1.1.1) | exact (·.1.1.2)); intro bn hnil)
        | (apply RG.gT; exact rfl; exact rfl; (first | assumption | decide))
        | (apply RG.gF; exact rfl; exact rfl; (first | assumption | decide); exact rfl)
        | (refine W.cond (by refine Ev.of rfl ?_; first | exact fun _ => ⟨⟩ | exact id | exact And.right | exact And.left | exact (·.1.2) | exact (·.1.1) | exact (·.1.1.1) | exact (·.1.1.2)) (fun hb => ?_) (fun hb => ?_) <;> (try simp at hb) <;> (try (exfalso; omega))))
      apply W.loopP (σ := Int × List Nat) 102 [4, 73] (fun (s, seen) => seen.Nodup ∧ (∀ j ∈ seen, j < M.length) ∧ s = min (seenSum M seen) 1000000000000000000) (fun (s, seen) => [(13, vI s)]) (fun (s, seen) => [(4, ⟨23, 4, [encB b]⟩), (42, ⟨mapTag, 0, M.map (mrow kI cellI)⟩), (73, ⟨iterTag, bi, seen.map irow⟩)]) (fun (s, seen) => M.length - seen.length) ((0, []))
      case hp => repeat (first | exact Pick.nil | apply Pick.cons rfl)
      case h0 =>
        refine ⟨by simp [seenSum]; omega, ?_⟩
        refine Le.mkR rfl rfl ?_ ?_ ?_ rfl
        · repeat (first | exact SubR.nil | apply SubR.p rfl (by first | rfl | (simp; done) | (congr 3; omega) | (congr 3; simp; omega)) | apply SubR.s rfl rfl rfl | apply SubR.a rfl rfl rfl | apply SubR.t rfl rfl | apply SubR.m rfl rfl rfl | apply SubR.i rfl rfl rfl rfl rfl)
        · repeat (first | exact SubR.nil | apply SubR.p rfl (by first | rfl | (simp; done) | (congr 3; omega) | (congr 3; simp; omega)) | apply SubR.s rfl rfl rfl | apply SubR.a rfl rfl rfl | apply SubR.t rfl rfl | apply SubR.m rfl rfl rfl | apply SubR.i rfl rfl rfl rfl rfl)
        · repeat (first | exact SubBR.nil | apply SubBR.cons rfl (by first | rfl | (simp only [List.map_append, List.map_replicate, List.map_cons, List.map_nil]; rfl) | (simp; done)))
      case round =>
        rintro ⟨s, seen⟩ ⟨g1, g2, g3⟩
        have g0 := seenSum_nn (fun e he => (hM e he).1) g2
        have hs : 0 ≤ s ∧ s ≤ 1000000000000000000 := by omega
        have hadd : ∀ j, j < M.length → -9223372036854775808 ≤ s + (nth M j).2 ∧ s + (nth M j).2 ≤ 9223372036854775807 := fun j hj => by
          have := hM _ (nth_mem hj); omega
        have hsh := share_b hs hr.2.2
        apply W.norm (by repeat (first | exact App.nil | apply App.cons))
        repeat' (first
          | apply RG.nil
          | apply Lex.nil
          | apply Then.n
          | apply Then.r
          | apply Then.x
          | apply InBlock.n
          | apply InBlock.r
          | apply InBlock.hit
          | (apply InBlock.miss; exact rfl)
          | apply W.seq
          | apply W.region
          | apply W.block
          | apply W.skip
          | apply W.ret
          | apply W.exit
          | ((first | apply U_ | (apply Ug_; exact rfl; exact rfl) | (apply Ugq_; exact rfl; exact rfl)); (first
    | (apply Q_move; (refine Ev.of rfl ?_; first | exact fun _ => ⟨⟩ | exact id | exact And.right | exact And.left | exact (·.1.2) | exact (·.1.1) | exact (·.1.1.1) | exact (·.1.1.2)))
    | (apply Q_assign; (refine Ev.of rfl ?_; first | exact fun _ => ⟨⟩ | exact id | exact And.right | exact And.left | exact (·.1.2) | exact (·.1.1) | exact (·.1.1.1) | exact (·.1.1.2)))
    | (apply Q_fieldp TYok; (refine Ev.of rfl ?_; first | exact fun _ => ⟨⟩ | exact id | exact And.right | exact And.left | exact (·.1.2) | exact (·.1.1) | exact (·.1.1.1) | exact (·.1.1.2)); exact rfl; exact rfl; exact rfl; exact rfl; exact rfl)
    | (apply Q_field TYok; (refine Ev.of rfl ?_; first | exact fun _ => ⟨⟩ | exact id | exact And.right | exact And.left | exact (·.1.2) | exact (·.1.1) | exact (·.1.1.1) | exact (·.1.1.2)); exact rfl; exact rfl; exact rfl; exact rfl; exact rfl)
    | (apply Q_loadp TYok; exact rfl; exact rfl; (refine Ev.of rfl ?_; first | exact fun _ => ⟨⟩ | exact id | exact And.right | exact And.left | exact (·.1.2) | exact (·.1.1) | exact (·.1.1.1) | exact (·.1.1.2)); exact rfl)
    | (apply Q_load TYok; exact rfl; exact rfl; (refine Ev.of rfl ?_; first | exact fun _ => ⟨⟩ | exact id | exact And.right | exact And.left | exact (·.1.2) | exact (·.1.1) | exact (·.1.1.1) | exact (·.1.1.2)); exact rfl; exact rfl; exact rfl)
    | (apply Q_loadm TYok; exact rfl; exact rfl; (refine Ev.of rfl ?_; first | exact fun _ => ⟨⟩ | exact id | exact And.right | exact And.left | exact (·.1.2) | exact (·.1.1) | exact (·.1.1.1) | exact (·.1.1.2)); exact rfl; (intro hg; first | omega | (simp; omega) | (simp at hg; simp; omega)); exact rfl; infer_instance)
    | (apply Q_loadpa TYok; exact rfl; exact rfl; (refine Ev.of rfl ?_; first | exact fun _ => ⟨⟩ | exact id | exact And.right | exact And.left | exact (·.1.2) | exact (·.1.1) | exact (·.1.1.1) | exact (·.1.1.2)); exact rfl)
    | (apply Q_loada TYok; exact rfl; exact rfl; (refine Ev.of rfl ?_; first | exact fun _ => ⟨⟩ | exact id | exact And.right | exact And.left | exact (·.1.2) | exact (·.1.1) | exact (·.1.1.1) | exact (·.1.1.2)); exact rfl; exact rfl; exact rfl)
    | (apply Q_loadma TYok; exact rfl; exact rfl; (refine Ev.of rfl ?_; first | exact fun _ => ⟨⟩ | exact id | exact And.right | exact And.left | exact (·.1.2) | exact (·.1.1) | exact (·.1.1.1) | exact (·.1.1.2)); exact rfl; (intro hg; first | omega | (simp; omega) | (simp at hg; simp; omega)); exact rfl; infer_instance)
    | (apply Q_add; (refine Ev.of rfl ?_; first | exact fun _ => ⟨⟩ | exact id | exact And.right | exact And.left | exact (·.1.2) | exact (·.1.1) | exact (·.1.1.1) | exact (·.1.1.2)); (refine Ev.of rfl ?_; first | exact fun _ => ⟨⟩ | exact id | exact And.right | exact And.left | exact (·.1.2) | exact (·.1.1) | exact (·.1.1.1) | exact (·.1.1.2)); (first | omega | (constructor <;> omega)))
    | (apply Q_mul; (refine Ev.of rfl ?_; first | exact fun _ => ⟨⟩ | exact id | exact And.right | exact And.left | exact (·.1.2) | exact (·.1.1) | exact (·.1.1.1) | exact (·.1.1.2)); (refine Ev.of rfl ?_; first | exact fun _ => ⟨⟩ | exact id | exact And.right | exact And.left | exact (·.1.2) | exact (·.1.1) | exact (·.1.1.1) | exact (·.1.1.2)); (first | omega | (constructor <;> omega)))
    | (apply Q_quoN; (refine Ev.of rfl ?_; first | exact fun _ => ⟨⟩ | exact id | exact And.right | exact And.left | exact (·.1.2) | exact (·.1.1) | exact (·.1.1.1) | exact (·.1.1.2)); (refine Ev.of rfl ?_; first | exact fun _ => ⟨⟩ | exact id | exact And.right | exact And.left | exact (·.1.2) | exact (·.1.1) | exact (·.1.1.1) | exact (·.1.1.2)); (first | omega | (constructor <;> omega)))
    | (apply Q_remN; (refine Ev.of rfl ?_; first | exact fun _ => ⟨⟩ | exact id | exact And.right | exact And.left | exact (·.1.2) | exact (·.1.1) | exact (·.1.1.1) | exact (·.1.1.2)); (refine Ev.of rfl ?_; first | exact fun _ => ⟨⟩ | exact id | exact And.right | exact And.left | exact (·.1.2) | exact (·.1.1) | exact (·.1.1.1) | exact (·.1.1.2)); (first | omega | (constructor <;> omega)))
    | (apply Q_bin; (refine Ev.of rfl ?_; first | exact fun _ => ⟨⟩ | exact id | exact And.right | exact And.left | exact (·.1.2) | exact (·.1.1) | exact (·.1.1.1) | exact (·.1.1.2)); (refine Ev.of rfl ?_; first | exact fun _ => ⟨⟩ | exact id | exact And.right | exact And.left | exact (·.1.2) | exact (·.1.1) | exact (·.1.1.1) | exact (·.1.1.2)); exact rfl)
    | (apply Q_or; (refine Ev.of rfl ?_; first | exact fun _ => ⟨⟩ | exact id | exact And.right | exact And.left | exact (·.1.2) | exact (·.1.1) | exact (·.1.1.1) | exact (·.1.1.2)); (refine Ev.of rfl ?_; first | exact fun _ => ⟨⟩ | exact id | exact And.right | exact And.left | exact (·.1.2) | exact (·.1.1) | exact (·.1.1.1) | exact (·.1.1.2)))
    | (apply Q_and; (refine Ev.of rfl ?_; first | exact fun _ => ⟨⟩ | exact id | exact And.right | exact And.left | exact (·.1.2) | exact (·.1.1) | exact (·.1.1.1) | exact (·.1.1.2)); (refine Ev.of rfl ?_; first | exact fun _ => ⟨⟩ | exact id | exact And.right | exact And.left | exact (·.1.2) | exact (·.1.1) | exact (·.1.1.1) | exact (·.1.1.2)))
    | (apply Q_not; (refine Ev.of rfl ?_; first | exact fun _ => ⟨⟩ | exact id | exact And.right | exact And.left | exact (·.1.2) | exact (·.1.1) | exact (·.1.1.1) | exact (·.1.1.2)))
    | (apply Q_min; (refine Ev.of rfl ?_; first | exact fun _ => ⟨⟩ | exact id | exact And.right | exact And.left | exact (·.1.2) | exact (·.1.1) | exact (·.1.1.1) | exact (·.1.1.2)); (refine Ev.of rfl ?_; first | exact fun _ => ⟨⟩ | exact id | exact And.right | exact And.left | exact (·.1.2) | exact (·.1.1) | exact (·.1.1.1) | exact (·.1.1.2)))
    | (apply Q_lenm TYok; (refine Ev.of rfl ?_; first | exact fun _ => ⟨⟩ | exact id | exact And.right | exact And.left | exact (·.1.2) | exact (·.1.1) | exact (·.1.1.1) | exact (·.1.1.2)); exact rfl; exact rfl)
    | (apply Q_lend TYok; (refine Ev.of rfl ?_; first | exact fun _ => ⟨⟩ | exact id | exact And.right | exact And.left | exact (·.1.2) | exact (·.1.1) | exact (·.1.1.1) | exact (·.1.1.2)); exact rfl; exact rfl)
    | (apply Q_lenom TYok; (refine Ev.of rfl ?_; first | exact fun _ => ⟨⟩ | exact id | exact And.right | exact And.left | exact (·.1.2) | exact (·.1.1) | exact (·.1.1.1) | exact (·.1.1.2)); exact rfl; exact rfl; exact rfl)
    | (apply Q_len TYok; (refine Ev.of rfl ?_; first | exact fun _ => ⟨⟩ | exact id | exact And.right | exact And.left | exact (·.1.2) | exact (·.1.1) | exact (·.1.1.1) | exact (·.1.1.2)); exact rfl; exact rfl; exact rfl)
    | (apply Q_len0 TYok; (refine Ev.of rfl ?_; first | exact fun _ => ⟨⟩ | exact id | exact And.right | exact And.left | exact (·.1.2) | exact (·.1.1) | exact (·.1.1.1) | exact (·.1.1.2)); exact rfl; exact rfl)
    | (apply Q_lens TYok; (refine Ev.of rfl ?_; first | exact fun _ => ⟨⟩ | exact id | exact And.right | exact And.left | exact (·.1.2) | exact (·.1.1) | exact (·.1.1.1) | exact (·.1.1.2)); exact rfl; exact rfl)
    | (apply Q_indexd TYok; (refine Ev.of rfl ?_; first | exact fun _ => ⟨⟩ | exact id | exact And.right | exact And.left | exact (·.1.2) | exact (·.1.1) | exact (·.1.1.1) | exact (·.1.1.2)); (refine Ev.of rfl ?_; first | exact fun _ => ⟨⟩ | exact id | exact And.right | exact And.left | exact (·.1.2) | exact (·.1.1) | exact (·.1.1.1) | exact (·.1.1.2)); exact rfl; exact rfl; exact rfl; (intro hg; first | exact getRowN (by first | omega | (simp at hg; omega)) | exact getRowI (by first | omega | (simp at hg; omega))); exact rfl)
    | (apply Q_index TYok; (refine Ev.of rfl ?_; first | exact fun _ => ⟨⟩ | exact id | exact And.right | exact And.left | exact (·.1.2) | exact (·.1.1) | exact (·.1.1.1) | exact (·.1.1.2)); (refine Ev.of rfl ?_; first | exact fun _ => ⟨⟩ | exact id | exact And.right | exact And.left | exact (·.1.2) | exact (·.1.1) | exact (·.1.1.1) | exact (·.1.1.2)); exact rfl; exact rfl; exact rfl; exact rfl; exact rfl; (intro hg; first | (simp; omega) | (simp at hg; simp; omega)))
    | (apply Q_binS; (refine Ev.of rfl ?_; first | exact fun _ => ⟨⟩ | exact id | exact And.right | exact And.left | exact (·.1.2) | exact (·.1.1) | exact (·.1.1.1) | exact (·.1.1.2)); (refine Ev.of rfl ?_; first | exact fun _ => ⟨⟩ | exact id | exact And.right | exact And.left | exact (·.1.2) | exact (·.1.1) | exact (·.1.1.1) | exact (·.1.1.2)); exact rfl)
    | (apply Q_binB TYok; (refine Ev.of rfl ?_; first | exact fun _ => ⟨⟩ | exact id | exact And.right | exact And.left | exact (·.1.2) | exact (·.1.1) | exact (·.1.1.1) | exact (·.1.1.2)); (refine Ev.of rfl ?_; first | exact fun _ => ⟨⟩ | exact id | exact And.right | exact And.left | exact (·.1.2) | exact (·.1.1) | exact (·.1.1.1) | exact (·.1.1.2)); exact rfl; exact rfl; exact rfl)
    | (apply Q_extract; (refine Ev.of rfl ?_; first | exact fun _ => ⟨⟩ | exact id | exact And.right | exact And.left | exact (·.1.2) | exact (·.1.1) | exact (·.1.1.1) | exact (·.1.1.2)); exact rfl)
    | (apply Q_entry TYok (kc := kI) (vc := cellI); (refine Ev.of rfl ?_; first | exact fun _ => ⟨⟩ | exact id | exact And.right | exact And.left | exact (·.1.2) | exact (·.1.1) | exact (·.1.1.1) | exact (·.1.1.2)); exact rfl; exact rfl; exact fun _ => ‹_›)
    | (apply Q_add; (refine Ev.of rfl ?_; first | exact fun _ => ⟨⟩ | exact id | exact And.right | exact And.left | exact (·.1.2) | exact (·.1.1) | exact (·.1.1.1) | exact (·.1.1.2)); (refine Ev.of rfl ?_; first | exact fun _ => ⟨⟩ | exact id | exact And.right | exact And.left | exact (·.1.2) | exact (·.1.1) | exact (·.1.1.1) | exact (·.1.1.2)); exact hadd _ ‹_›)); exact rfl)
          | (apply S_alloc TYok; exact rfl; exact rfl; exact rfl; exact rfl)
          | (apply S_store TYok; (refine Ev.of rfl ?_; first | exact fun _ => ⟨⟩ | exact id | exact And.right | exact And.left | exact (·.1.2) | exact (·.1.1) | exact (·.1.1.1) | exact (·.1.1.2)); (refine Ev.of rfl ?_; first | exact fun _ => ⟨⟩ | exact id | exact And.right | exact And.left | exact (·.1.2) | exact (·.1.1) | exact (·.1.1.1) | exact (·.1.1.2)); exact rfl; exact rfl; exact rfl; exact rfl; exact rfl)
          | (apply S_storem TYok; (refine Ev.of rfl ?_; first | exact fun _ => ⟨⟩ | exact id | exact And.right | exact And.left | exact (·.1.2) | exact (·.1.1) | exact (·.1.1.1) | exact (·.1.1.2)); (refine Ev.of rfl ?_; first | exact fun _ => ⟨⟩ | exact id | exact And.right | exact And.left | exact (·.1.2) | exact (·.1.1) | exact (·.1.1.1) | exact (·.1.1.2)); exact rfl; exact rfl; (first | omega | (simp; omega)); exact rfl; (intro z; exact rfl))
          | (apply S_box; (refine Ev.of rfl ?_; first | exact fun _ => ⟨⟩ | exact id | exact And.right | exact And.left | exact (·.1.2) | exact (·.1.1) | exact (·.1.1.1) | exact (·.1.1.2)); exact rfl; exact rfl; exact rfl)
          | (apply S_next TYok KI (vc := cellI); (refine Ev.of rfl ?_; first | exact fun _ => ⟨⟩ | exact id | exact And.right | exact And.left | exact (·.1.2) | exact (·.1.1) | exact (·.1.1.1) | exact (·.1.1.2)); exact rfl; exact rfl; exact rfl; intro hall)
          | (intro j hj hns)
          | (apply S_isnil TYok; exact rfl; exact rfl; exact rfl; (refine Ev.of rfl ?_; first | exact fun _ => ⟨⟩ | exact id | exact And.right | exact And.left | exact (·.1.2) | exact (·.1.1) | exact (·.1.1.1) | exact (·.1.1.2)); intro bn hnil)
          | (apply RG.gT; exact rfl; exact rfl; (first | assumption | decide))
          | (apply RG.gF; exact rfl; exact rfl; (first | assumption | decide); exact rfl)
          | (refine W.cond (by refine Ev.of rfl ?_; first | exact fun _ => ⟨⟩ | exact id | exact And.right | exact And.left | exact (·.1.2) | exact (·.1.1) | exact (·.1.1.1) | exact (·.1.1.2)) (fun hb => ?_) (fun hb => ?_) <;> (try simp at hb) <;> (try (exfalso; omega))))
        · have es : sumF b fs i d = s := by rw [sumF, ← htot, ← seen_all g1 g2 hall, g3]
          have e3 : sizeF b fs i d = (min b.cap (b.start + s / 1000 * b.share + s % 1000 * b.share / 1000), 0) := by
            rw [e2, es, sizeV, shareF, Int.add_assoc]
          rw [e3]
          exact Fin.ret (by repeat (first | exact ResL.nil | refine ResL.cons rfl rfl (by first | exact PSub.rfl' | exact PSub.nil' | (refine PSub.of_eq ?_; simp; done) | (refine PSub.of_eq ?_; simp only [List.map_append, List.map_cons, List.map_nil]; rfl) | (refine PSub.of_eq ?_; simp; rfl)) ?_))
        · refine ⟨(min (IntKind.i64.wrap (s + (nth M j).2)) 1000000000000000000, seen ++ [j]), ⟨nodup_snoc g1 hns, fun x hx => ?_, ?_⟩, ?_, ?_⟩
          · rcases List.mem_append.1 hx with hx | hx
            · exact g2 x hx
            · rw [List.mem_singleton.1 hx]; exact hj
          · have := hM _ (nth_mem hj)
            rw [i64_id (hadd j hj), seenSum_snoc]; omega
          · refine Le.mkR rfl rfl ?_ ?_ ?_ rfl
            · repeat (first | exact SubR.nil | apply SubR.p rfl (by first | rfl | (simp; done) | (congr 3; omega) | (congr 3; simp; omega)) | apply SubR.s rfl rfl rfl | apply SubR.a rfl rfl rfl | apply SubR.t rfl rfl | apply SubR.m rfl rfl rfl | apply SubR.i rfl rfl rfl rfl rfl)
            · repeat (first | exact SubR.nil | apply SubR.p rfl (by first | rfl | (simp; done) | (congr 3; omega) | (congr 3; simp; omega)) | apply SubR.s rfl rfl rfl | apply SubR.a rfl rfl rfl | apply SubR.t rfl rfl | apply SubR.m rfl rfl rfl | apply SubR.i rfl rfl rfl rfl rfl)
            · repeat (first | exact SubBR.nil | apply SubBR.cons rfl (by first | rfl | (simp only [List.map_append, List.map_replicate, List.map_cons, List.map_nil]; rfl) | (simp; done)))
          · have := nodup_len (nodup_snoc g1 hns) (n := M.length) (fun x hx => by
              rcases List.mem_append.1 hx with hx | hx
              · exact g2 x hx
              · rw [List.mem_singleton.1 hx]; exact hj)
            simp at this ⊢
            omega
theorem lastSum_drop {p : Fact → Bool} {l : List Fact} {k : Nat} (h : k < l.length) : lastSum p (l.drop k) = (if p (nth l k) && !((l.drop (k + 1)).any fun g => p g && decide (g.period = (nth l k).period)) then (nth l k).value else 0) + lastSum p (l.drop (k + 1)) := by
  rw [drop_nth h]; rfl
theorem rsize_ok (b : Basket) (fs : List Fact) (i d : Int) (hn : okN b.name) (h : ∀ f ∈ fs, okN f.name) (hl : big fs.length) : ACalls Try.prog 11 [aB b, slF fs, cI i, cI d] (pair (sizeF b fs i d)) := by
  refine ACalls.of_W (qs := [cI (sizeF b fs i d).1, cI (sizeF b fs i d).2]) [8, 9] 99 Try.func11 (by kernel_rfl) rfl rfl rfl fun G => ?_
  apply W.init (by repeat (first | exact InitE.nil | apply InitE.c0 | apply InitE.c1 | apply InitE.c2 | apply InitE.c3 | apply InitE.c4 | apply InitE.c5 | apply InitE.c6 | apply InitE.c7 | apply InitE.c8 | apply InitE.c9 | apply InitE.c10 | apply InitE.c11))
  repeat' (first
    | apply RG.nil
    | apply Lex.nil
    | apply Then.n
    | apply Then.r
    | apply Then.x
    | apply InBlock.n
    | apply InBlock.r
    | apply InBlock.hit
    | (apply InBlock.miss; exact rfl)
    | apply W.seq
    | apply W.region
    | apply W.block
    | apply W.skip
    | apply W.ret
    | apply W.exit
    | (apply W.draw2 (id := 7) [0, 0, 0, 6, 14, 0, 0, 127, 255] [[4], [1], [11], [39, 40], [41], [2], [3], [38, 42, 43, 44], [45]] 9 [(38, 16), (39, 2), (40, 2048), (41, 1649267441664), (42, 2199023255552), (43, 4), (44, 8), (45, 31061203484672), (46, 35184372088832)] mixed (by kernel_rfl) rfl rfl)
    | (apply W.draw2 (id := 12) [0, 1, 3, 3, 3, 27, 59, 3, 3, 511, 1023, 2047, 4095, 4095, 16383, 32767, 65535, 4095, 4095, 397311, 921599, 1970175, 4194303, 8388607, 16777215, 33554431] [[12], [55], [4, 56], [1, 56], [13, 56], [58, 59, 56], [60, 56], [2, 56], [3, 56], [57, 61, 62, 63, 56], [64, 56], [65, 56], [1, 66], [13, 66], [67, 68, 66], [69, 66], [70, 66], [1, 66], [11, 66], [72, 73, 66], [74, 66], [75, 66], [71, 76, 66], [66, 77, 56], [56, 78], [79]] 26 [(55, 4096), (56, 36028797018963968), (57, 72057594037927952), (58, 72057594037927938), (59, 72057594037936128), (60, 936748722493063168), (61, 1224979098644774912), (62, 72057594037927940), (63, 72057594037927944), (64, 16357073846609641472), (65, 18518801667747479552), (66, 36965545741457031168), (67, 73786976294838206466), (68, 73786976294838214656), (69, 516508834063867445248), (70, 664082786653543858176), (71, 1254378597012249509888), (72, 73786976294838206466), (73, 73786976294838208512), (74, 14240886424903773847552), (75, 18963252907773419061248), (76, 37852718839251999916032), (77, 77992833943643984232448), (78, 151189586485717522972672), (79, 302231526961251331604480), (12, 604462909807314587353088)] mixed (by kernel_rfl) rfl rfl)
    | (apply W.draw2 (id := 15) [0, 1, 0, 4, 0, 0, 32, 112, 252, 511, 1023, 2047] [[4], [89], [4], [91], [10], [4], [94], [93, 95], [92, 96], [90, 97], [98], []] 12 [(89, 16), (90, 618970019642690137449562112), (91, 16), (92, 2475880078570760549798248448), (93, 1024), (94, 16), (95, 19807040628566084398385987584), (96, 49517601571415210995964968960), (97, 84179922671405858693140447232), (98, 159694265067814055461987024896), (8, 316912650057057350374175801344), (9, 0)] mixed (by kernel_rfl) rfl rfl)
    | ((first | apply U_ | (apply Ug_; exact rfl; exact rfl) | (apply Ugq_; exact rfl; exact rfl) | apply Lex.u | (apply Lex.g; exact rfl; exact rfl) | (apply Lex.gq; exact rfl; exact rfl)); (first
    | (apply Q_move; (refine Ev.of rfl ?_; first | exact fun _ => ⟨⟩ | exact id | exact And.right | exact And.left | exact (·.1.2) | exact (·.1.1) | exact (·.1.1.1) | exact (·.1.1.2)))
    | (apply Q_assign; (refine Ev.of rfl ?_; first | exact fun _ => ⟨⟩ | exact id | exact And.right | exact And.left | exact (·.1.2) | exact (·.1.1) | exact (·.1.1.1) | exact (·.1.1.2)))
    | (apply Q_fieldp TYok; (refine Ev.of rfl ?_; first | exact fun _ => ⟨⟩ | exact id | exact And.right | exact And.left | exact (·.1.2) | exact (·.1.1) | exact (·.1.1.1) | exact (·.1.1.2)); exact rfl; exact rfl; exact rfl; exact rfl; exact rfl)
    | (apply Q_field TYok; (refine Ev.of rfl ?_; first | exact fun _ => ⟨⟩ | exact id | exact And.right | exact And.left | exact (·.1.2) | exact (·.1.1) | exact (·.1.1.1) | exact (·.1.1.2)); exact rfl; exact rfl; exact rfl; exact rfl; exact rfl)
    | (apply Q_loadp TYok; exact rfl; exact rfl; (refine Ev.of rfl ?_; first | exact fun _ => ⟨⟩ | exact id | exact And.right | exact And.left | exact (·.1.2) | exact (·.1.1) | exact (·.1.1.1) | exact (·.1.1.2)); exact rfl)
    | (apply Q_load TYok; exact rfl; exact rfl; (refine Ev.of rfl ?_; first | exact fun _ => ⟨⟩ | exact id | exact And.right | exact And.left | exact (·.1.2) | exact (·.1.1) | exact (·.1.1.1) | exact (·.1.1.2)); exact rfl; exact rfl; exact rfl)
    | (apply Q_loadm TYok; exact rfl; exact rfl; (refine Ev.of rfl ?_; first | exact fun _ => ⟨⟩ | exact id | exact And.right | exact And.left | exact (·.1.2) | exact (·.1.1) | exact (·.1.1.1) | exact (·.1.1.2)); exact rfl; (intro hg; first | omega | (simp; omega) | (simp at hg; simp; omega)); exact rfl; infer_instance)
    | (apply Q_loadpa TYok; exact rfl; exact rfl; (refine Ev.of rfl ?_; first | exact fun _ => ⟨⟩ | exact id | exact And.right | exact And.left | exact (·.1.2) | exact (·.1.1) | exact (·.1.1.1) | exact (·.1.1.2)); exact rfl)
    | (apply Q_loada TYok; exact rfl; exact rfl; (refine Ev.of rfl ?_; first | exact fun _ => ⟨⟩ | exact id | exact And.right | exact And.left | exact (·.1.2) | exact (·.1.1) | exact (·.1.1.1) | exact (·.1.1.2)); exact rfl; exact rfl; exact rfl)
    | (apply Q_loadma TYok; exact rfl; exact rfl; (refine Ev.of rfl ?_; first | exact fun _ => ⟨⟩ | exact id | exact And.right | exact And.left | exact (·.1.2) | exact (·.1.1) | exact (·.1.1.1) | exact (·.1.1.2)); exact rfl; (intro hg; first | omega | (simp; omega) | (simp at hg; simp; omega)); exact rfl; infer_instance)
    | (apply Q_add; (refine Ev.of rfl ?_; first | exact fun _ => ⟨⟩ | exact id | exact And.right | exact And.left | exact (·.1.2) | exact (·.1.1) | exact (·.1.1.1) | exact (·.1.1.2)); (refine Ev.of rfl ?_; first | exact fun _ => ⟨⟩ | exact id | exact And.right | exact And.left | exact (·.1.2) | exact (·.1.1) | exact (·.1.1.1) | exact (·.1.1.2)); (first | omega | (constructor <;> omega)))
    | (apply Q_bin; (refine Ev.of rfl ?_; first | exact fun _ => ⟨⟩ | exact id | exact And.right | exact And.left | exact (·.1.2) | exact (·.1.1) | exact (·.1.1.1) | exact (·.1.1.2)); (refine Ev.of rfl ?_; first | exact fun _ => ⟨⟩ | exact id | exact And.right | exact And.left | exact (·.1.2) | exact (·.1.1) | exact (·.1.1.1) | exact (·.1.1.2)); exact rfl)
    | (apply Q_or; (refine Ev.of rfl ?_; first | exact fun _ => ⟨⟩ | exact id | exact And.right | exact And.left | exact (·.1.2) | exact (·.1.1) | exact (·.1.1.1) | exact (·.1.1.2)); (refine Ev.of rfl ?_; first | exact fun _ => ⟨⟩ | exact id | exact And.right | exact And.left | exact (·.1.2) | exact (·.1.1) | exact (·.1.1.1) | exact (·.1.1.2)))
    | (apply Q_and; (refine Ev.of rfl ?_; first | exact fun _ => ⟨⟩ | exact id | exact And.right | exact And.left | exact (·.1.2) | exact (·.1.1) | exact (·.1.1.1) | exact (·.1.1.2)); (refine Ev.of rfl ?_; first | exact fun _ => ⟨⟩ | exact id | exact And.right | exact And.left | exact (·.1.2) | exact (·.1.1) | exact (·.1.1.1) | exact (·.1.1.2)))
    | (apply Q_not; (refine Ev.of rfl ?_; first | exact fun _ => ⟨⟩ | exact id | exact And.right | exact And.left | exact (·.1.2) | exact (·.1.1) | exact (·.1.1.1) | exact (·.1.1.2)))
    | (apply Q_min; (refine Ev.of rfl ?_; first | exact fun _ => ⟨⟩ | exact id | exact And.right | exact And.left | exact (·.1.2) | exact (·.1.1) | exact (·.1.1.1) | exact (·.1.1.2)); (refine Ev.of rfl ?_; first | exact fun _ => ⟨⟩ | exact id | exact And.right | exact And.left | exact (·.1.2) | exact (·.1.1) | exact (·.1.1.1) | exact (·.1.1.2)))
    | (apply Q_lenm TYok; (refine Ev.of rfl ?_; first | exact fun _ => ⟨⟩ | exact id | exact And.right | exact And.left | exact (·.1.2) | exact (·.1.1) | exact (·.1.1.1) | exact (·.1.1.2)); exact rfl; exact rfl)
    | (apply Q_lend TYok; (refine Ev.of rfl ?_; first | exact fun _ => ⟨⟩ | exact id | exact And.right | exact And.left | exact (·.1.2) | exact (·.1.1) | exact (·.1.1.1) | exact (·.1.1.2)); exact rfl; exact rfl)
    | (apply Q_lenom TYok; (refine Ev.of rfl ?_; first | exact fun _ => ⟨⟩ | exact id | exact And.right | exact And.left | exact (·.1.2) | exact (·.1.1) | exact (·.1.1.1) | exact (·.1.1.2)); exact rfl; exact rfl; exact rfl)
    | (apply Q_len TYok; (refine Ev.of rfl ?_; first | exact fun _ => ⟨⟩ | exact id | exact And.right | exact And.left | exact (·.1.2) | exact (·.1.1) | exact (·.1.1.1) | exact (·.1.1.2)); exact rfl; exact rfl; exact rfl)
    | (apply Q_len0 TYok; (refine Ev.of rfl ?_; first | exact fun _ => ⟨⟩ | exact id | exact And.right | exact And.left | exact (·.1.2) | exact (·.1.1) | exact (·.1.1.1) | exact (·.1.1.2)); exact rfl; exact rfl)
    | (apply Q_lens TYok; (refine Ev.of rfl ?_; first | exact fun _ => ⟨⟩ | exact id | exact And.right | exact And.left | exact (·.1.2) | exact (·.1.1) | exact (·.1.1.1) | exact (·.1.1.2)); exact rfl; exact rfl)
    | (apply Q_indexd TYok; (refine Ev.of rfl ?_; first | exact fun _ => ⟨⟩ | exact id | exact And.right | exact And.left | exact (·.1.2) | exact (·.1.1) | exact (·.1.1.1) | exact (·.1.1.2)); (refine Ev.of rfl ?_; first | exact fun _ => ⟨⟩ | exact id | exact And.right | exact And.left | exact (·.1.2) | exact (·.1.1) | exact (·.1.1.1) | exact (·.1.1.2)); exact rfl; exact rfl; exact rfl; (intro hg; first | exact getRowN (by first | omega | (simp at hg; omega)) | exact getRowI (by first | omega | (simp at hg; omega))); exact rfl)
    | (apply Q_index TYok; (refine Ev.of rfl ?_; first | exact fun _ => ⟨⟩ | exact id | exact And.right | exact And.left | exact (·.1.2) | exact (·.1.1) | exact (·.1.1.1) | exact (·.1.1.2)); (refine Ev.of rfl ?_; first | exact fun _ => ⟨⟩ | exact id | exact And.right | exact And.left | exact (·.1.2) | exact (·.1.1) | exact (·.1.1.1) | exact (·.1.1.2)); exact rfl; exact rfl; exact rfl; exact rfl; exact rfl; (intro hg; first | (simp; omega) | (simp at hg; simp; omega)))
    | (apply Q_binS; (refine Ev.of rfl ?_; first | exact fun _ => ⟨⟩ | exact id | exact And.right | exact And.left | exact (·.1.2) | exact (·.1.1) | exact (·.1.1.1) | exact (·.1.1.2)); (refine Ev.of rfl ?_; first | exact fun _ => ⟨⟩ | exact id | exact And.right | exact And.left | exact (·.1.2) | exact (·.1.1) | exact (·.1.1.1) | exact (·.1.1.2)); exact rfl)
    | (apply Q_binB TYok; (refine Ev.of rfl ?_; first | exact fun _ => ⟨⟩ | exact id | exact And.right | exact And.left | exact (·.1.2) | exact (·.1.1) | exact (·.1.1.1) | exact (·.1.1.2)); (refine Ev.of rfl ?_; first | exact fun _ => ⟨⟩ | exact id | exact And.right | exact And.left | exact (·.1.2) | exact (·.1.1) | exact (·.1.1.1) | exact (·.1.1.2)); exact rfl; exact rfl; exact rfl)
    | (apply Q_call (rright_ok b hn); (repeat (first | exact EvL.nil | refine EvL.cons (by refine Ev.of rfl ?_; first | exact fun _ => ⟨⟩ | exact id | exact And.right | exact And.left | exact (·.1.2) | exact (·.1.1) | exact (·.1.1.1) | exact (·.1.1.2)) rfl (by first | exact PSub.rfl' | exact PSub.nil') ?_)); exact rfl)
    | (apply Q_call (rfacts_ok fs h hl); (repeat (first | exact EvL.nil | refine EvL.cons (by refine Ev.of rfl ?_; first | exact fun _ => ⟨⟩ | exact id | exact And.right | exact And.left | exact (·.1.2) | exact (·.1.1) | exact (·.1.1.1) | exact (·.1.1.2)) rfl (by first | exact PSub.rfl' | exact PSub.nil') ?_)); exact rfl)
    | (apply Q_call (in_ok i 0 59); (repeat (first | exact EvL.nil | refine EvL.cons (by refine Ev.of rfl ?_; first | exact fun _ => ⟨⟩ | exact id | exact And.right | exact And.left | exact (·.1.2) | exact (·.1.1) | exact (·.1.1.1) | exact (·.1.1.2)) rfl (by first | exact PSub.rfl' | exact PSub.nil') ?_)); exact rfl)
    | (apply Q_call (in_ok d 0 200000); (repeat (first | exact EvL.nil | refine EvL.cons (by refine Ev.of rfl ?_; first | exact fun _ => ⟨⟩ | exact id | exact And.right | exact And.left | exact (·.1.2) | exact (·.1.1) | exact (·.1.1.1) | exact (·.1.1.2)) rfl (by first | exact PSub.rfl' | exact PSub.nil') ?_)); exact rfl)); exact rfl)
    | (apply S_box; (refine Ev.of rfl ?_; first | exact fun _ => ⟨⟩ | exact id | exact And.right | exact And.left | exact (·.1.2) | exact (·.1.1) | exact (·.1.1.1) | exact (·.1.1.2)); exact rfl; exact rfl; exact rfl)
    | (apply RG.gT; exact rfl; exact rfl; (first | assumption | decide))
    | (apply RG.gF; exact rfl; exact rfl; (first | assumption | decide); exact rfl)
    | (refine W.cond (by refine Ev.of rfl ?_; first | exact fun _ => ⟨⟩ | exact id | exact And.right | exact And.left | exact (·.1.2) | exact (·.1.1) | exact (·.1.1.1) | exact (·.1.1.2)) (fun hb => ?_) (fun hb => ?_) <;> (try simp at hb) <;> (try (exfalso; omega))))
  · have e2 : sizeF b fs i d = (0, 1) := by
      have : sizeOk b fs i d = false := by
        rcases hb with ((h | h) | h) | h <;> simp [sizeOk, h]
      simp [sizeF, this]
    rw [e2]
    exact Fin.ret (by repeat (first | exact ResL.nil | refine ResL.cons rfl rfl (by first | exact PSub.rfl' | exact PSub.nil' | (refine PSub.of_eq ?_; simp; done) | (refine PSub.of_eq ?_; simp only [List.map_append, List.map_cons, List.map_nil]; rfl) | (refine PSub.of_eq ?_; simp; rfl)) ?_))
  have hok : sizeOk b fs i d = true := by simp [sizeOk, hb]
  have e2 : sizeF b fs i d = (sizeV b (sumF b fs i d), 0) := by simp [sizeF, hok]
  have hval := facts_val hb.1.1.2
  have hr : 0 ≤ b.start ∧ b.start ≤ 1000000000000000 ∧ 0 ≤ b.share ∧ b.share ≤ 1000 := by
    have := hb.1.1.1
    simp [rightF, amountF] at this; omega
  apply W.loopP (σ := Int × Nat) 99 [1, 2, 3, 4] (fun (s, k) => k ≤ fs.length ∧ 0 ≤ s ∧ s ≤ 1000000000000000000 ∧ sumF b fs i d = min (s + lastSum (fun f => aboutF b f i d) (fs.drop k)) 1000000000000000000) (fun (s, k) => [(10, vI s), (11, vI k)]) (fun _ => [(4, ⟨23, 4, [encB b]⟩)]) (fun (s, k) => fs.length - k) ((0, 0))
  case hp => repeat (first | exact Pick.nil | apply Pick.cons rfl)
  case h0 =>
    refine ⟨by simp [sumF], ?_⟩
    refine Le.mkR rfl rfl ?_ ?_ ?_ rfl
    · repeat (first | exact SubR.nil | apply SubR.p rfl (by first | rfl | (simp; done) | (congr 3; omega) | (congr 3; simp; omega)) | apply SubR.s rfl rfl rfl | apply SubR.a rfl rfl rfl | apply SubR.t rfl rfl | apply SubR.m rfl rfl rfl | apply SubR.i rfl rfl rfl rfl rfl)
    · repeat (first | exact SubR.nil | apply SubR.p rfl (by first | rfl | (simp; done) | (congr 3; omega) | (congr 3; simp; omega)) | apply SubR.s rfl rfl rfl | apply SubR.a rfl rfl rfl | apply SubR.t rfl rfl | apply SubR.m rfl rfl rfl | apply SubR.i rfl rfl rfl rfl rfl)
    · repeat (first | exact SubBR.nil | apply SubBR.cons rfl (by first | rfl | (simp only [List.map_append, List.map_replicate, List.map_cons, List.map_nil]; rfl) | (simp; done)))
  case round =>
    rintro ⟨s, k⟩ ⟨h1, h2, h3, h4⟩
    apply W.norm (by repeat (first | exact App.nil | apply App.cons))
    by_cases hk : k < fs.length
    · have hv := hval _ (nth_mem hk)
      repeat' (first
        | apply RG.nil
        | apply Lex.nil
        | apply Then.n
        | apply Then.r
        | apply Then.x
        | apply InBlock.n
        | apply InBlock.r
        | apply InBlock.hit
        | (apply InBlock.miss; exact rfl)
        | apply W.seq
        | apply W.region
        | apply W.block
        | apply W.skip
        | apply W.ret
        | apply W.exit
        | (apply W.draw2 (id := 7) [0, 0, 0, 6, 14, 0, 0, 127, 255] [[4], [1], [11], [39, 40], [41], [2], [3], [38, 42, 43, 44], [45]] 9 [(38, 16), (39, 2), (40, 2048), (41, 1649267441664), (42, 2199023255552), (43, 4), (44, 8), (45, 31061203484672), (46, 35184372088832)] mixed (by kernel_rfl) rfl rfl)
        | (apply W.draw2 (id := 12) [0, 1, 3, 3, 3, 27, 59, 3, 3, 511, 1023, 2047, 4095, 4095, 16383, 32767, 65535, 4095, 4095, 397311, 921599, 1970175, 4194303, 8388607, 16777215, 33554431] [[12], [55], [4, 56], [1, 56], [13, 56], [58, 59, 56], [60, 56], [2, 56], [3, 56], [57, 61, 62, 63, 56], [64, 56], [65, 56], [1, 66], [13, 66], [67, 68, 66], [69, 66], [70, 66], [1, 66], [11, 66], [72, 73, 66], [74, 66], [75, 66], [71, 76, 66], [66, 77, 56], [56, 78], [79]] 26 [(55, 4096), (56, 36028797018963968), (57, 72057594037927952), (58, 72057594037927938), (59, 72057594037936128), (60, 936748722493063168), (61, 1224979098644774912), (62, 72057594037927940), (63, 72057594037927944), (64, 16357073846609641472), (65, 18518801667747479552), (66, 36965545741457031168), (67, 73786976294838206466), (68, 73786976294838214656), (69, 516508834063867445248), (70, 664082786653543858176), (71, 1254378597012249509888), (72, 73786976294838206466), (73, 73786976294838208512), (74, 14240886424903773847552), (75, 18963252907773419061248), (76, 37852718839251999916032), (77, 77992833943643984232448), (78, 151189586485717522972672), (79, 302231526961251331604480), (12, 604462909807314587353088)] mixed (by kernel_rfl) rfl rfl)
        | (apply W.draw2 (id := 15) [0, 1, 0, 4, 0, 0, 32, 112, 252, 511, 1023, 2047] [[4], [89], [4], [91], [10], [4], [94], [93, 95], [92, 96], [90, 97], [98], []] 12 [(89, 16), (90, 618970019642690137449562112), (91, 16), (92, 2475880078570760549798248448), (93, 1024), (94, 16), (95, 19807040628566084398385987584), (96, 49517601571415210995964968960), (97, 84179922671405858693140447232), (98, 159694265067814055461987024896), (8, 316912650057057350374175801344), (9, 0)] mixed (by kernel_rfl) rfl rfl)
        | ((first | apply U_ | (apply Ug_; exact rfl; exact rfl) | (apply Ugq_; exact rfl; exact rfl) | apply Lex.u | (apply Lex.g; exact rfl; exact rfl) | (apply Lex.gq; exact rfl; exact rfl)); (first
    | (apply Q_move; (refine Ev.of rfl ?_; first | exact fun _ => ⟨⟩ | exact id | exact And.right | exact And.left | exact (·.1.2) | exact (·.1.1) | exact (·.1.1.1) | exact (·.1.1.2)))
    | (apply Q_assign; (refine Ev.of rfl ?_; first | exact fun _ => ⟨⟩ | exact id | exact And.right | exact And.left | exact (·.1.2) | exact (·.1.1) | exact (·.1.1.1) | exact (·.1.1.2)))
    | (apply Q_fieldp TYok; (refine Ev.of rfl ?_; first | exact fun _ => ⟨⟩ | exact id | exact And.right | exact And.left | exact (·.1.2) | exact (·.1.1) | exact (·.1.1.1) | exact (·.1.1.2)); exact rfl; exact rfl; exact rfl; exact rfl; exact rfl)
    | (apply Q_field TYok; (refine Ev.of rfl ?_; first | exact fun _ => ⟨⟩ | exact id | exact And.right | exact And.left | exact (·.1.2) | exact (·.1.1) | exact (·.1.1.1) | exact (·.1.1.2)); exact rfl; exact rfl; exact rfl; exact rfl; exact rfl)
    | (apply Q_loadp TYok; exact rfl; exact rfl; (refine Ev.of rfl ?_; first | exact fun _ => ⟨⟩ | exact id | exact And.right | exact And.left | exact (·.1.2) | exact (·.1.1) | exact (·.1.1.1) | exact (·.1.1.2)); exact rfl)
    | (apply Q_load TYok; exact rfl; exact rfl; (refine Ev.of rfl ?_; first | exact fun _ => ⟨⟩ | exact id | exact And.right | exact And.left | exact (·.1.2) | exact (·.1.1) | exact (·.1.1.1) | exact (·.1.1.2)); exact rfl; exact rfl; exact rfl)
    | (apply Q_loadm TYok; exact rfl; exact rfl; (refine Ev.of rfl ?_; first | exact fun _ => ⟨⟩ | exact id | exact And.right | exact And.left | exact (·.1.2) | exact (·.1.1) | exact (·.1.1.1) | exact (·.1.1.2)); exact rfl; (intro hg; first | omega | (simp; omega) | (simp at hg; simp; omega)); exact rfl; infer_instance)
    | (apply Q_loadpa TYok; exact rfl; exact rfl; (refine Ev.of rfl ?_; first | exact fun _ => ⟨⟩ | exact id | exact And.right | exact And.left | exact (·.1.2) | exact (·.1.1) | exact (·.1.1.1) | exact (·.1.1.2)); exact rfl)
    | (apply Q_loada TYok; exact rfl; exact rfl; (refine Ev.of rfl ?_; first | exact fun _ => ⟨⟩ | exact id | exact And.right | exact And.left | exact (·.1.2) | exact (·.1.1) | exact (·.1.1.1) | exact (·.1.1.2)); exact rfl; exact rfl; exact rfl)
    | (apply Q_loadma TYok; exact rfl; exact rfl; (refine Ev.of rfl ?_; first | exact fun _ => ⟨⟩ | exact id | exact And.right | exact And.left | exact (·.1.2) | exact (·.1.1) | exact (·.1.1.1) | exact (·.1.1.2)); exact rfl; (intro hg; first | omega | (simp; omega) | (simp at hg; simp; omega)); exact rfl; infer_instance)
    | (apply Q_add; (refine Ev.of rfl ?_; first | exact fun _ => ⟨⟩ | exact id | exact And.right | exact And.left | exact (·.1.2) | exact (·.1.1) | exact (·.1.1.1) | exact (·.1.1.2)); (refine Ev.of rfl ?_; first | exact fun _ => ⟨⟩ | exact id | exact And.right | exact And.left | exact (·.1.2) | exact (·.1.1) | exact (·.1.1.1) | exact (·.1.1.2)); (first | omega | (constructor <;> omega)))
    | (apply Q_bin; (refine Ev.of rfl ?_; first | exact fun _ => ⟨⟩ | exact id | exact And.right | exact And.left | exact (·.1.2) | exact (·.1.1) | exact (·.1.1.1) | exact (·.1.1.2)); (refine Ev.of rfl ?_; first | exact fun _ => ⟨⟩ | exact id | exact And.right | exact And.left | exact (·.1.2) | exact (·.1.1) | exact (·.1.1.1) | exact (·.1.1.2)); exact rfl)
    | (apply Q_or; (refine Ev.of rfl ?_; first | exact fun _ => ⟨⟩ | exact id | exact And.right | exact And.left | exact (·.1.2) | exact (·.1.1) | exact (·.1.1.1) | exact (·.1.1.2)); (refine Ev.of rfl ?_; first | exact fun _ => ⟨⟩ | exact id | exact And.right | exact And.left | exact (·.1.2) | exact (·.1.1) | exact (·.1.1.1) | exact (·.1.1.2)))
    | (apply Q_and; (refine Ev.of rfl ?_; first | exact fun _ => ⟨⟩ | exact id | exact And.right | exact And.left | exact (·.1.2) | exact (·.1.1) | exact (·.1.1.1) | exact (·.1.1.2)); (refine Ev.of rfl ?_; first | exact fun _ => ⟨⟩ | exact id | exact And.right | exact And.left | exact (·.1.2) | exact (·.1.1) | exact (·.1.1.1) | exact (·.1.1.2)))
    | (apply Q_not; (refine Ev.of rfl ?_; first | exact fun _ => ⟨⟩ | exact id | exact And.right | exact And.left | exact (·.1.2) | exact (·.1.1) | exact (·.1.1.1) | exact (·.1.1.2)))
    | (apply Q_min; (refine Ev.of rfl ?_; first | exact fun _ => ⟨⟩ | exact id | exact And.right | exact And.left | exact (·.1.2) | exact (·.1.1) | exact (·.1.1.1) | exact (·.1.1.2)); (refine Ev.of rfl ?_; first | exact fun _ => ⟨⟩ | exact id | exact And.right | exact And.left | exact (·.1.2) | exact (·.1.1) | exact (·.1.1.1) | exact (·.1.1.2)))
    | (apply Q_lenm TYok; (refine Ev.of rfl ?_; first | exact fun _ => ⟨⟩ | exact id | exact And.right | exact And.left | exact (·.1.2) | exact (·.1.1) | exact (·.1.1.1) | exact (·.1.1.2)); exact rfl; exact rfl)
    | (apply Q_lend TYok; (refine Ev.of rfl ?_; first | exact fun _ => ⟨⟩ | exact id | exact And.right | exact And.left | exact (·.1.2) | exact (·.1.1) | exact (·.1.1.1) | exact (·.1.1.2)); exact rfl; exact rfl)
    | (apply Q_lenom TYok; (refine Ev.of rfl ?_; first | exact fun _ => ⟨⟩ | exact id | exact And.right | exact And.left | exact (·.1.2) | exact (·.1.1) | exact (·.1.1.1) | exact (·.1.1.2)); exact rfl; exact rfl; exact rfl)
    | (apply Q_len TYok; (refine Ev.of rfl ?_; first | exact fun _ => ⟨⟩ | exact id | exact And.right | exact And.left | exact (·.1.2) | exact (·.1.1) | exact (·.1.1.1) | exact (·.1.1.2)); exact rfl; exact rfl; exact rfl)
    | (apply Q_len0 TYok; (refine Ev.of rfl ?_; first | exact fun _ => ⟨⟩ | exact id | exact And.right | exact And.left | exact (·.1.2) | exact (·.1.1) | exact (·.1.1.1) | exact (·.1.1.2)); exact rfl; exact rfl)
    | (apply Q_lens TYok; (refine Ev.of rfl ?_; first | exact fun _ => ⟨⟩ | exact id | exact And.right | exact And.left | exact (·.1.2) | exact (·.1.1) | exact (·.1.1.1) | exact (·.1.1.2)); exact rfl; exact rfl)
    | (apply Q_indexd TYok; (refine Ev.of rfl ?_; first | exact fun _ => ⟨⟩ | exact id | exact And.right | exact And.left | exact (·.1.2) | exact (·.1.1) | exact (·.1.1.1) | exact (·.1.1.2)); (refine Ev.of rfl ?_; first | exact fun _ => ⟨⟩ | exact id | exact And.right | exact And.left | exact (·.1.2) | exact (·.1.1) | exact (·.1.1.1) | exact (·.1.1.2)); exact rfl; exact rfl; exact rfl; (intro hg; first | exact getRowN (by first | omega | (simp at hg; omega)) | exact getRowI (by first | omega | (simp at hg; omega))); exact rfl)
    | (apply Q_index TYok; (refine Ev.of rfl ?_; first | exact fun _ => ⟨⟩ | exact id | exact And.right | exact And.left | exact (·.1.2) | exact (·.1.1) | exact (·.1.1.1) | exact (·.1.1.2)); (refine Ev.of rfl ?_; first | exact fun _ => ⟨⟩ | exact id | exact And.right | exact And.left | exact (·.1.2) | exact (·.1.1) | exact (·.1.1.1) | exact (·.1.1.2)); exact rfl; exact rfl; exact rfl; exact rfl; exact rfl; (intro hg; first | (simp; omega) | (simp at hg; simp; omega)))
    | (apply Q_binS; (refine Ev.of rfl ?_; first | exact fun _ => ⟨⟩ | exact id | exact And.right | exact And.left | exact (·.1.2) | exact (·.1.1) | exact (·.1.1.1) | exact (·.1.1.2)); (refine Ev.of rfl ?_; first | exact fun _ => ⟨⟩ | exact id | exact And.right | exact And.left | exact (·.1.2) | exact (·.1.1) | exact (·.1.1.1) | exact (·.1.1.2)); exact rfl)
    | (apply Q_binB TYok; (refine Ev.of rfl ?_; first | exact fun _ => ⟨⟩ | exact id | exact And.right | exact And.left | exact (·.1.2) | exact (·.1.1) | exact (·.1.1.1) | exact (·.1.1.2)); (refine Ev.of rfl ?_; first | exact fun _ => ⟨⟩ | exact id | exact And.right | exact And.left | exact (·.1.2) | exact (·.1.1) | exact (·.1.1.1) | exact (·.1.1.2)); exact rfl; exact rfl; exact rfl)
    | (apply Q_call (about_ok b (nth fs k) i d); (repeat (first | exact EvL.nil | refine EvL.cons (by refine Ev.of rfl ?_; first | exact fun _ => ⟨⟩ | exact id | exact And.right | exact And.left | exact (·.1.2) | exact (·.1.1) | exact (·.1.1.1) | exact (·.1.1.2)) rfl (by first | exact PSub.rfl' | exact PSub.nil') ?_)); exact rfl)); exact rfl)
        | (apply S_box; (refine Ev.of rfl ?_; first | exact fun _ => ⟨⟩ | exact id | exact And.right | exact And.left | exact (·.1.2) | exact (·.1.1) | exact (·.1.1.1) | exact (·.1.1.2)); exact rfl; exact rfl; exact rfl)
        | (apply RG.gT; exact rfl; exact rfl; (first | assumption | decide))
        | (apply RG.gF; exact rfl; exact rfl; (first | assumption | decide); exact rfl)
        | (refine W.cond (by refine Ev.of rfl ?_; first | exact fun _ => ⟨⟩ | exact id | exact And.right | exact And.left | exact (·.1.2) | exact (·.1.1) | exact (·.1.1.1) | exact (·.1.1.2)) (fun hb => ?_) (fun hb => ?_) <;> (try simp at hb) <;> (try (exfalso; omega))))
      · refine ⟨(s, k + 1), ⟨by omega, h2, h3, ?_⟩, ?_, ?_⟩
        · rw [h4, lastSum_drop hk, hb]; simp
        · refine Le.mkR rfl rfl ?_ ?_ ?_ rfl
          · repeat (first | exact SubR.nil | apply SubR.p rfl (by first | rfl | (simp; done) | (congr 3; omega) | (congr 3; simp; omega)) | apply SubR.s rfl rfl rfl | apply SubR.a rfl rfl rfl | apply SubR.t rfl rfl | apply SubR.m rfl rfl rfl | apply SubR.i rfl rfl rfl rfl rfl)
          · repeat (first | exact SubR.nil | apply SubR.p rfl (by first | rfl | (simp; done) | (congr 3; omega) | (congr 3; simp; omega)) | apply SubR.s rfl rfl rfl | apply SubR.a rfl rfl rfl | apply SubR.t rfl rfl | apply SubR.m rfl rfl rfl | apply SubR.i rfl rfl rfl rfl rfl)
          · repeat (first | exact SubBR.nil | apply SubBR.cons rfl (by first | rfl | (simp only [List.map_append, List.map_replicate, List.map_cons, List.map_nil]; rfl) | (simp; done)))
        · (try simp only); omega
      apply W.loopP (σ := Bool × Nat) 99 [1, 2, 3, 4, 10, 11] (fun (t, j) => k + 1 ≤ j ∧ j ≤ fs.length ∧ (!((fs.drop (k + 1)).any fun g => aboutF b g i d && decide (g.period = (nth fs k).period))) = (t && !((fs.drop j).any fun g => aboutF b g i d && decide (g.period = (nth fs k).period)))) (fun (t, j) => [(12, vB t), (13, vI j)]) (fun _ => [(4, ⟨23, 4, [encB b]⟩)]) (fun (t, j) => fs.length - j) ((true, k + 1))
      case hp => repeat (first | exact Pick.nil | apply Pick.cons rfl)
      case h0 =>
        refine ⟨⟨by omega, by omega, by simp⟩, ?_⟩
        refine Le.mkR rfl rfl ?_ ?_ ?_ rfl
        · repeat (first | exact SubR.nil | apply SubR.p rfl (by first | rfl | (simp; done) | (congr 3; omega) | (congr 3; simp; omega)) | apply SubR.s rfl rfl rfl | apply SubR.a rfl rfl rfl | apply SubR.t rfl rfl | apply SubR.m rfl rfl rfl | apply SubR.i rfl rfl rfl rfl rfl)
        · repeat (first | exact SubR.nil | apply SubR.p rfl (by first | rfl | (simp; done) | (congr 3; omega) | (congr 3; simp; omega)) | apply SubR.s rfl rfl rfl | apply SubR.a rfl rfl rfl | apply SubR.t rfl rfl | apply SubR.m rfl rfl rfl | apply SubR.i rfl rfl rfl rfl rfl)
        · repeat (first | exact SubBR.nil | apply SubBR.cons rfl (by first | rfl | (simp only [List.map_append, List.map_replicate, List.map_cons, List.map_nil]; rfl) | (simp; done)))
      case round =>
        rintro ⟨t, j⟩ ⟨f1, f2, f3⟩
        apply W.norm (by repeat (first | exact App.nil | apply App.cons))
        by_cases hj : j < fs.length
        · skip
          repeat' (first
            | apply RG.nil
            | apply Lex.nil
            | apply Then.n
            | apply Then.r
            | apply Then.x
            | apply InBlock.n
            | apply InBlock.r
            | apply InBlock.hit
            | (apply InBlock.miss; exact rfl)
            | apply W.seq
            | apply W.region
            | apply W.block
            | apply W.skip
            | apply W.ret
            | apply W.exit
            | (apply W.draw2 (id := 7) [0, 0, 0, 6, 14, 0, 0, 127, 255] [[4], [1], [11], [39, 40], [41], [2], [3], [38, 42, 43, 44], [45]] 9 [(38, 16), (39, 2), (40, 2048), (41, 1649267441664), (42, 2199023255552), (43, 4), (44, 8), (45, 31061203484672), (46, 35184372088832)] mixed (by kernel_rfl) rfl rfl)
            | (apply W.draw2 (id := 12) [0, 1, 3, 3, 3, 27, 59, 3, 3, 511, 1023, 2047, 4095, 4095, 16383, 32767, 65535, 4095, 4095, 397311, 921599, 1970175, 4194303, 8388607, 16777215, 33554431] [[12], [55], [4, 56], [1, 56], [13, 56], [58, 59, 56], [60, 56], [2, 56], [3, 56], [57, 61, 62, 63, 56], [64, 56], [65, 56], [1, 66], [13, 66], [67, 68, 66], [69, 66], [70, 66], [1, 66], [11, 66], [72, 73, 66], [74, 66], [75, 66], [71, 76, 66], [66, 77, 56], [56, 78], [79]] 26 [(55, 4096), (56, 36028797018963968), (57, 72057594037927952), (58, 72057594037927938), (59, 72057594037936128), (60, 936748722493063168), (61, 1224979098644774912), (62, 72057594037927940), (63, 72057594037927944), (64, 16357073846609641472), (65, 18518801667747479552), (66, 36965545741457031168), (67, 73786976294838206466), (68, 73786976294838214656), (69, 516508834063867445248), (70, 664082786653543858176), (71, 1254378597012249509888), (72, 73786976294838206466), (73, 73786976294838208512), (74, 14240886424903773847552), (75, 18963252907773419061248), (76, 37852718839251999916032), (77, 77992833943643984232448), (78, 151189586485717522972672), (79, 302231526961251331604480), (12, 604462909807314587353088)] mixed (by kernel_rfl) rfl rfl)
            | (apply W.draw2 (id := 15) [0, 1, 0, 4, 0, 0, 32, 112, 252, 511, 1023, 2047] [[4], [89], [4], [91], [10], [4], [94], [93, 95], [92, 96], [90, 97], [98], []] 12 [(89, 16), (90, 618970019642690137449562112), (91, 16), (92, 2475880078570760549798248448), (93, 1024), (94, 16), (95, 19807040628566084398385987584), (96, 49517601571415210995964968960), (97, 84179922671405858693140447232), (98, 159694265067814055461987024896), (8, 316912650057057350374175801344), (9, 0)] mixed (by kernel_rfl) rfl rfl)
            | ((first | apply U_ | (apply Ug_; exact rfl; exact rfl) | (apply Ugq_; exact rfl; exact rfl) | apply Lex.u | (apply Lex.g; exact rfl; exact rfl) | (apply Lex.gq; exact rfl; exact rfl)); (first
    | (apply Q_move; (refine Ev.of rfl ?_; first | exact fun _ => ⟨⟩ | exact id | exact And.right | exact And.left | exact (·.1.2) | exact (·.1.1) | exact (·.1.1.1) | exact (·.1.1.2)))
    | (apply Q_assign; (refine Ev.of rfl ?_; first | exact fun _ => ⟨⟩ | exact id | exact And.right | exact And.left | exact (·.1.2) | exact (·.1.1) | exact (·.1.1.1) | exact (·.1.1.2)))
    | (apply Q_fieldp TYok; (refine Ev.of rfl ?_; first | exact fun _ => ⟨⟩ | exact id | exact And.right | exact And.left | exact (·.1.2) | exact (·.1.1) | exact (·.1.1.1) | exact (·.1.1.2)); exact rfl; exact rfl; exact rfl; exact rfl; exact rfl)
    | (apply Q_field TYok; (refine Ev.of rfl ?_; first | exact fun _ => ⟨⟩ | exact id | exact And.right | exact And.left | exact (·.1.2) | exact (·.1.1) | exact (·.1.1.1) | exact (·.1.1.2)); exact rfl; exact rfl; exact rfl; exact rfl; exact rfl)
    | (apply Q_loadp TYok; exact rfl; exact rfl; (refine Ev.of rfl ?_; first | exact fun _ => ⟨⟩ | exact id | exact And.right | exact And.left | exact (·.1.2) | exact (·.1.1) | exact (·.1.1.1) | exact (·.1.1.2)); exact rfl)
    | (apply Q_load TYok; exact rfl; exact rfl; (refine Ev.of rfl ?_; first | exact fun _ => ⟨⟩ | exact id | exact And.right | exact And.left | exact (·.1.2) | exact (·.1.1) | exact (·.1.1.1) | exact (·.1.1.2)); exact rfl; exact rfl; exact rfl)
    | (apply Q_loadm TYok; exact rfl; exact rfl; (refine Ev.of rfl ?_; first | exact fun _ => ⟨⟩ | exact id | exact And.right | exact And.left | exact (·.1.2) | exact (·.1.1) | exact (·.1.1.1) | exact (·.1.1.2)); exact rfl; (intro hg; first | omega | (simp; omega) | (simp at hg; simp; omega)); exact rfl; infer_instance)
    | (apply Q_loadpa TYok; exact rfl; exact rfl; (refine Ev.of rfl ?_; first | exact fun _ => ⟨⟩ | exact id | exact And.right | exact And.left | exact (·.1.2) | exact (·.1.1) | exact (·.1.1.1) | exact (·.1.1.2)); exact rfl)
    | (apply Q_loada TYok; exact rfl; exact rfl; (refine Ev.of rfl ?_; first | exact fun _ => ⟨⟩ | exact id | exact And.right | exact And.left | exact (·.1.2) | exact (·.1.1) | exact (·.1.1.1) | exact (·.1.1.2)); exact rfl; exact rfl; exact rfl)
    | (apply Q_loadma TYok; exact rfl; exact rfl; (refine Ev.of rfl ?_; first | exact fun _ => ⟨⟩ | exact id | exact And.right | exact And.left | exact (·.1.2) | exact (·.1.1) | exact (·.1.1.1) | exact (·.1.1.2)); exact rfl; (intro hg; first | omega | (simp; omega) | (simp at hg; simp; omega)); exact rfl; infer_instance)
    | (apply Q_add; (refine Ev.of rfl ?_; first | exact fun _ => ⟨⟩ | exact id | exact And.right | exact And.left | exact (·.1.2) | exact (·.1.1) | exact (·.1.1.1) | exact (·.1.1.2)); (refine Ev.of rfl ?_; first | exact fun _ => ⟨⟩ | exact id | exact And.right | exact And.left | exact (·.1.2) | exact (·.1.1) | exact (·.1.1.1) | exact (·.1.1.2)); (first | omega | (constructor <;> omega)))
    | (apply Q_bin; (refine Ev.of rfl ?_; first | exact fun _ => ⟨⟩ | exact id | exact And.right | exact And.left | exact (·.1.2) | exact (·.1.1) | exact (·.1.1.1) | exact (·.1.1.2)); (refine Ev.of rfl ?_; first | exact fun _ => ⟨⟩ | exact id | exact And.right | exact And.left | exact (·.1.2) | exact (·.1.1) | exact (·.1.1.1) | exact (·.1.1.2)); exact rfl)
    | (apply Q_or; (refine Ev.of rfl ?_; first | exact fun _ => ⟨⟩ | exact id | exact And.right | exact And.left | exact (·.1.2) | exact (·.1.1) | exact (·.1.1.1) | exact (·.1.1.2)); (refine Ev.of rfl ?_; first | exact fun _ => ⟨⟩ | exact id | exact And.right | exact And.left | exact (·.1.2) | exact (·.1.1) | exact (·.1.1.1) | exact (·.1.1.2)))
    | (apply Q_and; (refine Ev.of rfl ?_; first | exact fun _ => ⟨⟩ | exact id | exact And.right | exact And.left | exact (·.1.2) | exact (·.1.1) | exact (·.1.1.1) | exact (·.1.1.2)); (refine Ev.of rfl ?_; first | exact fun _ => ⟨⟩ | exact id | exact And.right | exact And.left | exact (·.1.2) | exact (·.1.1) | exact (·.1.1.1) | exact (·.1.1.2)))
    | (apply Q_not; (refine Ev.of rfl ?_; first | exact fun _ => ⟨⟩ | exact id | exact And.right | exact And.left | exact (·.1.2) | exact (·.1.1) | exact (·.1.1.1) | exact (·.1.1.2)))
    | (apply Q_min; (refine Ev.of rfl ?_; first | exact fun _ => ⟨⟩ | exact id | exact And.right | exact And.left | exact (·.1.2) | exact (·.1.1) | exact (·.1.1.1) | exact (·.1.1.2)); (refine Ev.of rfl ?_; first | exact fun _ => ⟨⟩ | exact id | exact And.right | exact And.left | exact (·.1.2) | exact (·.1.1) | exact (·.1.1.1) | exact (·.1.1.2)))
    | (apply Q_lenm TYok; (refine Ev.of rfl ?_; first | exact fun _ => ⟨⟩ | exact id | exact And.right | exact And.left | exact (·.1.2) | exact (·.1.1) | exact (·.1.1.1) | exact (·.1.1.2)); exact rfl; exact rfl)
    | (apply Q_lend TYok; (refine Ev.of rfl ?_; first | exact fun _ => ⟨⟩ | exact id | exact And.right | exact And.left | exact (·.1.2) | exact (·.1.1) | exact (·.1.1.1) | exact (·.1.1.2)); exact rfl; exact rfl)
    | (apply Q_lenom TYok; (refine Ev.of rfl ?_; first | exact fun _ => ⟨⟩ | exact id | exact And.right | exact And.left | exact (·.1.2) | exact (·.1.1) | exact (·.1.1.1) | exact (·.1.1.2)); exact rfl; exact rfl; exact rfl)
    | (apply Q_len TYok; (refine Ev.of rfl ?_; first | exact fun _ => ⟨⟩ | exact id | exact And.right | exact And.left | exact (·.1.2) | exact (·.1.1) | exact (·.1.1.1) | exact (·.1.1.2)); exact rfl; exact rfl; exact rfl)
    | (apply Q_len0 TYok; (refine Ev.of rfl ?_; first | exact fun _ => ⟨⟩ | exact id | exact And.right | exact And.left | exact (·.1.2) | exact (·.1.1) | exact (·.1.1.1) | exact (·.1.1.2)); exact rfl; exact rfl)
    | (apply Q_lens TYok; (refine Ev.of rfl ?_; first | exact fun _ => ⟨⟩ | exact id | exact And.right | exact And.left | exact (·.1.2) | exact (·.1.1) | exact (·.1.1.1) | exact (·.1.1.2)); exact rfl; exact rfl)
    | (apply Q_indexd TYok; (refine Ev.of rfl ?_; first | exact fun _ => ⟨⟩ | exact id | exact And.right | exact And.left | exact (·.1.2) | exact (·.1.1) | exact (·.1.1.1) | exact (·.1.1.2)); (refine Ev.of rfl ?_; first | exact fun _ => ⟨⟩ | exact id | exact And.right | exact And.left | exact (·.1.2) | exact (·.1.1) | exact (·.1.1.1) | exact (·.1.1.2)); exact rfl; exact rfl; exact rfl; (intro hg; first | exact getRowN (by first | omega | (simp at hg; omega)) | exact getRowI (by first | omega | (simp at hg; omega))); exact rfl)
    | (apply Q_index TYok; (refine Ev.of rfl ?_; first | exact fun _ => ⟨⟩ | exact id | exact And.right | exact And.left | exact (·.1.2) | exact (·.1.1) | exact (·.1.1.1) | exact (·.1.1.2)); (refine Ev.of rfl ?_; first | exact fun _ => ⟨⟩ | exact id | exact And.right | exact And.left | exact (·.1.2) | exact (·.1.1) | exact (·.1.1.1) | exact (·.1.1.2)); exact rfl; exact rfl; exact rfl; exact rfl; exact rfl; (intro hg; first | (simp; omega) | (simp at hg; simp; omega)))
    | (apply Q_binS; (refine Ev.of rfl ?_; first | exact fun _ => ⟨⟩ | exact id | exact And.right | exact And.left | exact (·.1.2) | exact (·.1.1) | exact (·.1.1.1) | exact (·.1.1.2)); (refine Ev.of rfl ?_; first | exact fun _ => ⟨⟩ | exact id | exact And.right | exact And.left | exact (·.1.2) | exact (·.1.1) | exact (·.1.1.1) | exact (·.1.1.2)); exact rfl)
    | (apply Q_binB TYok; (refine Ev.of rfl ?_; first | exact fun _ => ⟨⟩ | exact id | exact And.right | exact And.left | exact (·.1.2) | exact (·.1.1) | exact (·.1.1.1) | exact (·.1.1.2)); (refine Ev.of rfl ?_; first | exact fun _ => ⟨⟩ | exact id | exact And.right | exact And.left | exact (·.1.2) | exact (·.1.1) | exact (·.1.1.1) | exact (·.1.1.2)); exact rfl; exact rfl; exact rfl)
    | (apply Q_call (about_ok b (nth fs j) i d); (repeat (first | exact EvL.nil | refine EvL.cons (by refine Ev.of rfl ?_; first | exact fun _ => ⟨⟩ | exact id | exact And.right | exact And.left | exact (·.1.2) | exact (·.1.1) | exact (·.1.1.1) | exact (·.1.1.2)) rfl (by first | exact PSub.rfl' | exact PSub.nil') ?_)); exact rfl)); exact rfl)
            | (apply S_box; (refine Ev.of rfl ?_; first | exact fun _ => ⟨⟩ | exact id | exact And.right | exact And.left | exact (·.1.2) | exact (·.1.1) | exact (·.1.1.1) | exact (·.1.1.2)); exact rfl; exact rfl; exact rfl)
            | (apply RG.gT; exact rfl; exact rfl; (first | assumption | decide))
            | (apply RG.gF; exact rfl; exact rfl; (first | assumption | decide); exact rfl)
            | (refine W.cond (by refine Ev.of rfl ?_; first | exact fun _ => ⟨⟩ | exact id | exact And.right | exact And.left | exact (·.1.2) | exact (·.1.1) | exact (·.1.1.1) | exact (·.1.1.2)) (fun hb => ?_) (fun hb => ?_) <;> (try simp at hb) <;> (try (exfalso; omega))))
          refine ⟨(t && (!aboutF b (nth fs j) i d || !decide ((nth fs j).period = (nth fs k).period)), j + 1), ⟨by omega, by omega, ?_⟩, ?_, ?_⟩
          · rw [f3, drop_nth hj, List.any_cons]
            cases t <;> cases aboutF b (nth fs j) i d <;> cases decide ((nth fs j).period = (nth fs k).period) <;> simp
          · refine Le.mkR rfl rfl ?_ ?_ ?_ rfl
            · repeat (first | exact SubR.nil | apply SubR.p rfl (by first | rfl | (simp; done) | (congr 3; omega) | (congr 3; simp; omega)) | apply SubR.s rfl rfl rfl | apply SubR.a rfl rfl rfl | apply SubR.t rfl rfl | apply SubR.m rfl rfl rfl | apply SubR.i rfl rfl rfl rfl rfl)
            · repeat (first | exact SubR.nil | apply SubR.p rfl (by first | rfl | (simp; done) | (congr 3; omega) | (congr 3; simp; omega)) | apply SubR.s rfl rfl rfl | apply SubR.a rfl rfl rfl | apply SubR.t rfl rfl | apply SubR.m rfl rfl rfl | apply SubR.i rfl rfl rfl rfl rfl)
            · repeat (first | exact SubBR.nil | apply SubBR.cons rfl (by first | rfl | (simp only [List.map_append, List.map_replicate, List.map_cons, List.map_nil]; rfl) | (simp; done)))
          · (try simp only); omega
        · obtain rfl : j = fs.length := by omega
          repeat' (first
            | apply RG.nil
            | apply Lex.nil
            | apply Then.n
            | apply Then.r
            | apply Then.x
            | apply InBlock.n
            | apply InBlock.r
            | apply InBlock.hit
            | (apply InBlock.miss; exact rfl)
            | apply W.seq
            | apply W.region
            | apply W.block
            | apply W.skip
            | apply W.ret
            | apply W.exit
            | (apply W.draw2 (id := 7) [0, 0, 0, 6, 14, 0, 0, 127, 255] [[4], [1], [11], [39, 40], [41], [2], [3], [38, 42, 43, 44], [45]] 9 [(38, 16), (39, 2), (40, 2048), (41, 1649267441664), (42, 2199023255552), (43, 4), (44, 8), (45, 31061203484672), (46, 35184372088832)] mixed (by kernel_rfl) rfl rfl)
            | (apply W.draw2 (id := 12) [0, 1, 3, 3, 3, 27, 59, 3, 3, 511, 1023, 2047, 4095, 4095, 16383, 32767, 65535, 4095, 4095, 397311, 921599, 1970175, 4194303, 8388607, 16777215, 33554431] [[12], [55], [4, 56], [1, 56], [13, 56], [58, 59, 56], [60, 56], [2, 56], [3, 56], [57, 61, 62, 63, 56], [64, 56], [65, 56], [1, 66], [13, 66], [67, 68, 66], [69, 66], [70, 66], [1, 66], [11, 66], [72, 73, 66], [74, 66], [75, 66], [71, 76, 66], [66, 77, 56], [56, 78], [79]] 26 [(55, 4096), (56, 36028797018963968), (57, 72057594037927952), (58, 72057594037927938), (59, 72057594037936128), (60, 936748722493063168), (61, 1224979098644774912), (62, 72057594037927940), (63, 72057594037927944), (64, 16357073846609641472), (65, 18518801667747479552), (66, 36965545741457031168), (67, 73786976294838206466), (68, 73786976294838214656), (69, 516508834063867445248), (70, 664082786653543858176), (71, 1254378597012249509888), (72, 73786976294838206466), (73, 73786976294838208512), (74, 14240886424903773847552), (75, 18963252907773419061248), (76, 37852718839251999916032), (77, 77992833943643984232448), (78, 151189586485717522972672), (79, 302231526961251331604480), (12, 604462909807314587353088)] mixed (by kernel_rfl) rfl rfl)
            | (apply W.draw2 (id := 15) [0, 1, 0, 4, 0, 0, 32, 112, 252, 511, 1023, 2047] [[4], [89], [4], [91], [10], [4], [94], [93, 95], [92, 96], [90, 97], [98], []] 12 [(89, 16), (90, 618970019642690137449562112), (91, 16), (92, 2475880078570760549798248448), (93, 1024), (94, 16), (95, 19807040628566084398385987584), (96, 49517601571415210995964968960), (97, 84179922671405858693140447232), (98, 159694265067814055461987024896), (8, 316912650057057350374175801344), (9, 0)] mixed (by kernel_rfl) rfl rfl)
            | ((first | apply U_ | (apply Ug_; exact rfl; exact rfl) | (apply Ugq_; exact rfl; exact rfl) | apply Lex.u | (apply Lex.g; exact rfl; exact rfl) | (apply Lex.gq; exact rfl; exact rfl)); (first
    | (apply Q_move; (refine Ev.of rfl ?_; first | exact fun _ => ⟨⟩ | exact id | exact And.right | exact And.left | exact (·.1.2) | exact (·.1.1) | exact (·.1.1.1) | exact (·.1.1.2)))
    | (apply Q_assign; (refine Ev.of rfl ?_; first | exact fun _ => ⟨⟩ | exact id | exact And.right | exact And.left | exact (·.1.2) | exact (·.1.1) | exact (·.1.1.1) | exact (·.1.1.2)))
    | (apply Q_fieldp TYok; (refine Ev.of rfl ?_; first | exact fun _ => ⟨⟩ | exact id | exact And.right | exact And.left | exact (·.1.2) | exact (·.1.1) | exact (·.1.1.1) | exact (·.1.1.2)); exact rfl; exact rfl; exact rfl; exact rfl; exact rfl)
    | (apply Q_field TYok; (refine Ev.of rfl ?_; first | exact fun _ => ⟨⟩ | exact id | exact And.right | exact And.left | exact (·.1.2) | exact (·.1.1) | exact (·.1.1.1) | exact (·.1.1.2)); exact rfl; exact rfl; exact rfl; exact rfl; exact rfl)
    | (apply Q_loadp TYok; exact rfl; exact rfl; (refine Ev.of rfl ?_; first | exact fun _ => ⟨⟩ | exact id | exact And.right | exact And.left | exact (·.1.2) | exact (·.1.1) | exact (·.1.1.1) | exact (·.1.1.2)); exact rfl)
    | (apply Q_load TYok; exact rfl; exact rfl; (refine Ev.of rfl ?_; first | exact fun _ => ⟨⟩ | exact id | exact And.right | exact And.left | exact (·.1.2) | exact (·.1.1) | exact (·.1.1.1) | exact (·.1.1.2)); exact rfl; exact rfl; exact rfl)
    | (apply Q_loadm TYok; exact rfl; exact rfl; (refine Ev.of rfl ?_; first | exact fun _ => ⟨⟩ | exact id | exact And.right | exact And.left | exact (·.1.2) | exact (·.1.1) | exact (·.1.1.1) | exact (·.1.1.2)); exact rfl; (intro hg; first | omega | (simp; omega) | (simp at hg; simp; omega)); exact rfl; infer_instance)
    | (apply Q_loadpa TYok; exact rfl; exact rfl; (refine Ev.of rfl ?_; first | exact fun _ => ⟨⟩ | exact id | exact And.right | exact And.left | exact (·.1.2) | exact (·.1.1) | exact (·.1.1.1) | exact (·.1.1.2)); exact rfl)
    | (apply Q_loada TYok; exact rfl; exact rfl; (refine Ev.of rfl ?_; first | exact fun _ => ⟨⟩ | exact id | exact And.right | exact And.left | exact (·.1.2) | exact (·.1.1) | exact (·.1.1.1) | exact (·.1.1.2)); exact rfl; exact rfl; exact rfl)
    | (apply Q_loadma TYok; exact rfl; exact rfl; (refine Ev.of rfl ?_; first | exact fun _ => ⟨⟩ | exact id | exact And.right | exact And.left | exact (·.1.2) | exact (·.1.1) | exact (·.1.1.1) | exact (·.1.1.2)); exact rfl; (intro hg; first | omega | (simp; omega) | (simp at hg; simp; omega)); exact rfl; infer_instance)
    | (apply Q_add; (refine Ev.of rfl ?_; first | exact fun _ => ⟨⟩ | exact id | exact And.right | exact And.left | exact (·.1.2) | exact (·.1.1) | exact (·.1.1.1) | exact (·.1.1.2)); (refine Ev.of rfl ?_; first | exact fun _ => ⟨⟩ | exact id | exact And.right | exact And.left | exact (·.1.2) | exact (·.1.1) | exact (·.1.1.1) | exact (·.1.1.2)); (first | omega | (constructor <;> omega)))
    | (apply Q_bin; (refine Ev.of rfl ?_; first | exact fun _ => ⟨⟩ | exact id | exact And.right | exact And.left | exact (·.1.2) | exact (·.1.1) | exact (·.1.1.1) | exact (·.1.1.2)); (refine Ev.of rfl ?_; first | exact fun _ => ⟨⟩ | exact id | exact And.right | exact And.left | exact (·.1.2) | exact (·.1.1) | exact (·.1.1.1) | exact (·.1.1.2)); exact rfl)
    | (apply Q_or; (refine Ev.of rfl ?_; first | exact fun _ => ⟨⟩ | exact id | exact And.right | exact And.left | exact (·.1.2) | exact (·.1.1) | exact (·.1.1.1) | exact (·.1.1.2)); (refine Ev.of rfl ?_; first | exact fun _ => ⟨⟩ | exact id | exact And.right | exact And.left | exact (·.1.2) | exact (·.1.1) | exact (·.1.1.1) | exact (·.1.1.2)))
    | (apply Q_and; (refine Ev.of rfl ?_; first | exact fun _ => ⟨⟩ | exact id | exact And.right | exact And.left | exact (·.1.2) | exact (·.1.1) | exact (·.1.1.1) | exact (·.1.1.2)); (refine Ev.of rfl ?_; first | exact fun _ => ⟨⟩ | exact id | exact And.right | exact And.left | exact (·.1.2) | exact (·.1.1) | exact (·.1.1.1) | exact (·.1.1.2)))
    | (apply Q_not; (refine Ev.of rfl ?_; first | exact fun _ => ⟨⟩ | exact id | exact And.right | exact And.left | exact (·.1.2) | exact (·.1.1) | exact (·.1.1.1) | exact (·.1.1.2)))
    | (apply Q_min; (refine Ev.of rfl ?_; first | exact fun _ => ⟨⟩ | exact id | exact And.right | exact And.left | exact (·.1.2) | exact (·.1.1) | exact (·.1.1.1) | exact (·.1.1.2)); (refine Ev.of rfl ?_; first | exact fun _ => ⟨⟩ | exact id | exact And.right | exact And.left | exact (·.1.2) | exact (·.1.1) | exact (·.1.1.1) | exact (·.1.1.2)))
    | (apply Q_lenm TYok; (refine Ev.of rfl ?_; first | exact fun _ => ⟨⟩ | exact id | exact And.right | exact And.left | exact (·.1.2) | exact (·.1.1) | exact (·.1.1.1) | exact (·.1.1.2)); exact rfl; exact rfl)
    | (apply Q_lend TYok; (refine Ev.of rfl ?_; first | exact fun _ => ⟨⟩ | exact id | exact And.right | exact And.left | exact (·.1.2) | exact (·.1.1) | exact (·.1.1.1) | exact (·.1.1.2)); exact rfl; exact rfl)
    | (apply Q_lenom TYok; (refine Ev.of rfl ?_; first | exact fun _ => ⟨⟩ | exact id | exact And.right | exact And.left | exact (·.1.2) | exact (·.1.1) | exact (·.1.1.1) | exact (·.1.1.2)); exact rfl; exact rfl; exact rfl)
    | (apply Q_len TYok; (refine Ev.of rfl ?_; first | exact fun _ => ⟨⟩ | exact id | exact And.right | exact And.left | exact (·.1.2) | exact (·.1.1) | exact (·.1.1.1) | exact (·.1.1.2)); exact rfl; exact rfl; exact rfl)
    | (apply Q_len0 TYok; (refine Ev.of rfl ?_; first | exact fun _ => ⟨⟩ | exact id | exact And.right | exact And.left | exact (·.1.2) | exact (·.1.1) | exact (·.1.1.1) | exact (·.1.1.2)); exact rfl; exact rfl)
    | (apply Q_lens TYok; (refine Ev.of rfl ?_; first | exact fun _ => ⟨⟩ | exact id | exact And.right | exact And.left | exact (·.1.2) | exact (·.1.1) | exact (·.1.1.1) | exact (·.1.1.2)); exact rfl; exact rfl)
    | (apply Q_indexd TYok; (refine Ev.of rfl ?_; first | exact fun _ => ⟨⟩ | exact id | exact And.right | exact And.left | exact (·.1.2) | exact (·.1.1) | exact (·.1.1.1) | exact (·.1.1.2)); (refine Ev.of rfl ?_; first | exact fun _ => ⟨⟩ | exact id | exact And.right | exact And.left | exact (·.1.2) | exact (·.1.1) | exact (·.1.1.1) | exact (·.1.1.2)); exact rfl; exact rfl; exact rfl; (intro hg; first | exact getRowN (by first | omega | (simp at hg; omega)) | exact getRowI (by first | omega | (simp at hg; omega))); exact rfl)
    | (apply Q_index TYok; (refine Ev.of rfl ?_; first | exact fun _ => ⟨⟩ | exact id | exact And.right | exact And.left | exact (·.1.2) | exact (·.1.1) | exact (·.1.1.1) | exact (·.1.1.2)); (refine Ev.of rfl ?_; first | exact fun _ => ⟨⟩ | exact id | exact And.right | exact And.left | exact (·.1.2) | exact (·.1.1) | exact (·.1.1.1) | exact (·.1.1.2)); exact rfl; exact rfl; exact rfl; exact rfl; exact rfl; (intro hg; first | (simp; omega) | (simp at hg; simp; omega)))
    | (apply Q_binS; (refine Ev.of rfl ?_; first | exact fun _ => ⟨⟩ | exact id | exact And.right | exact And.left | exact (·.1.2) | exact (·.1.1) | exact (·.1.1.1) | exact (·.1.1.2)); (refine Ev.of rfl ?_; first | exact fun _ => ⟨⟩ | exact id | exact And.right | exact And.left | exact (·.1.2) | exact (·.1.1) | exact (·.1.1.1) | exact (·.1.1.2)); exact rfl)
    | (apply Q_binB TYok; (refine Ev.of rfl ?_; first | exact fun _ => ⟨⟩ | exact id | exact And.right | exact And.left | exact (·.1.2) | exact (·.1.1) | exact (·.1.1.1) | exact (·.1.1.2)); (refine Ev.of rfl ?_; first | exact fun _ => ⟨⟩ | exact id | exact And.right | exact And.left | exact (·.1.2) | exact (·.1.1) | exact (·.1.1.1) | exact (·.1.1.2)); exact rfl; exact rfl; exact rfl)); exact rfl)
            | (apply S_box; (refine Ev.of rfl ?_; first | exact fun _ => ⟨⟩ | exact id | exact And.right | exact And.left | exact (·.1.2) | exact (·.1.1) | exact (·.1.1.1) | exact (·.1.1.2)); exact rfl; exact rfl; exact rfl)
            | (apply RG.gT; exact rfl; exact rfl; (first | assumption | decide))
            | (apply RG.gF; exact rfl; exact rfl; (first | assumption | decide); exact rfl)
            | (refine W.cond (by refine Ev.of rfl ?_; first | exact fun _ => ⟨⟩ | exact id | exact And.right | exact And.left | exact (·.1.2) | exact (·.1.1) | exact (·.1.1.1) | exact (·.1.1.2)) (fun hb => ?_) (fun hb => ?_) <;> (try simp at hb) <;> (try (exfalso; omega))))
          · refine ⟨(min (s + (nth fs k).value) 1000000000000000000, k + 1), ⟨by omega, by omega, by omega, ?_⟩, ?_, ?_⟩
            · subst hb
              have := lastSum_nn (p := fun f => aboutF b f i d) (l := fs.drop (k + 1)) (fun f hf => (hval f (List.mem_of_mem_drop hf)).1)
              rw [h4, lastSum_drop hk]
              simp only [List.drop_length, List.any_nil, Bool.not_false, Bool.and_true] at f3
              simp only [f3, ‹aboutF b (nth fs k) i d = true›, Bool.and_true, if_true]
              omega
            · refine Le.mkR rfl rfl ?_ ?_ ?_ rfl
              · repeat (first | exact SubR.nil | apply SubR.p rfl (by first | rfl | (simp; done) | (congr 3; omega) | (congr 3; simp; omega)) | apply SubR.s rfl rfl rfl | apply SubR.a rfl rfl rfl | apply SubR.t rfl rfl | apply SubR.m rfl rfl rfl | apply SubR.i rfl rfl rfl rfl rfl)
              · repeat (first | exact SubR.nil | apply SubR.p rfl (by first | rfl | (simp; done) | (congr 3; omega) | (congr 3; simp; omega)) | apply SubR.s rfl rfl rfl | apply SubR.a rfl rfl rfl | apply SubR.t rfl rfl | apply SubR.m rfl rfl rfl | apply SubR.i rfl rfl rfl rfl rfl)
              · repeat (first | exact SubBR.nil | apply SubBR.cons rfl (by first | rfl | (simp only [List.map_append, List.map_replicate, List.map_cons, List.map_nil]; rfl) | (simp; done)))
            · (try simp only); omega
          · refine ⟨(s, k + 1), ⟨by omega, h2, h3, ?_⟩, ?_, ?_⟩
            · subst hb
              rw [h4, lastSum_drop hk]
              simp only [List.drop_length, List.any_nil, Bool.not_false, Bool.and_true] at f3
              simp only [f3, Bool.and_false, Bool.false_eq_true, if_false, Int.zero_add]
            · refine Le.mkR rfl rfl ?_ ?_ ?_ rfl
              · repeat (first | exact SubR.nil | apply SubR.p rfl (by first | rfl | (simp; done) | (congr 3; omega) | (congr 3; simp; omega)) | apply SubR.s rfl rfl rfl | apply SubR.a rfl rfl rfl | apply SubR.t rfl rfl | apply SubR.m rfl rfl rfl | apply SubR.i rfl rfl rfl rfl rfl)
              · repeat (first | exact SubR.nil | apply SubR.p rfl (by first | rfl | (simp; done) | (congr 3; omega) | (congr 3; simp; omega)) | apply SubR.s rfl rfl rfl | apply SubR.a rfl rfl rfl | apply SubR.t rfl rfl | apply SubR.m rfl rfl rfl | apply SubR.i rfl rfl rfl rfl rfl)
              · repeat (first | exact SubBR.nil | apply SubBR.cons rfl (by first | rfl | (simp only [List.map_append, List.map_replicate, List.map_cons, List.map_nil]; rfl) | (simp; done)))
            · (try simp only); omega
    · obtain rfl : k = fs.length := by omega
      have hsh := share_b ⟨h2, h3⟩ hr.2.2
      repeat' (first
        | apply RG.nil
        | apply Lex.nil
        | apply Then.n
        | apply Then.r
        | apply Then.x
        | apply InBlock.n
        | apply InBlock.r
        | apply InBlock.hit
        | (apply InBlock.miss; exact rfl)
        | apply W.seq
        | apply W.region
        | apply W.block
        | apply W.skip
        | apply W.ret
        | apply W.exit
        | (apply W.draw2 (id := 7) [0, 0, 0, 6, 14, 0, 0, 127, 255] [[4], [1], [11], [39, 40], [41], [2], [3], [38, 42, 43, 44], [45]] 9 [(38, 16), (39, 2), (40, 2048), (41, 1649267441664), (42, 2199023255552), (43, 4), (44, 8), (45, 31061203484672), (46, 35184372088832)] mixed (by kernel_rfl) rfl rfl)
        | (apply W.draw2 (id := 12) [0, 1, 3, 3, 3, 27, 59, 3, 3, 511, 1023, 2047, 4095, 4095, 16383, 32767, 65535, 4095, 4095, 397311, 921599, 1970175, 4194303, 8388607, 16777215, 33554431] [[12], [55], [4, 56], [1, 56], [13, 56], [58, 59, 56], [60, 56], [2, 56], [3, 56], [57, 61, 62, 63, 56], [64, 56], [65, 56], [1, 66], [13, 66], [67, 68, 66], [69, 66], [70, 66], [1, 66], [11, 66], [72, 73, 66], [74, 66], [75, 66], [71, 76, 66], [66, 77, 56], [56, 78], [79]] 26 [(55, 4096), (56, 36028797018963968), (57, 72057594037927952), (58, 72057594037927938), (59, 72057594037936128), (60, 936748722493063168), (61, 1224979098644774912), (62, 72057594037927940), (63, 72057594037927944), (64, 16357073846609641472), (65, 18518801667747479552), (66, 36965545741457031168), (67, 73786976294838206466), (68, 73786976294838214656), (69, 516508834063867445248), (70, 664082786653543858176), (71, 1254378597012249509888), (72, 73786976294838206466), (73, 73786976294838208512), (74, 14240886424903773847552), (75, 18963252907773419061248), (76, 37852718839251999916032), (77, 77992833943643984232448), (78, 151189586485717522972672), (79, 302231526961251331604480), (12, 604462909807314587353088)] mixed (by kernel_rfl) rfl rfl)
        | (apply W.draw2 (id := 15) [0, 1, 0, 4, 0, 0, 32, 112, 252, 511, 1023, 2047] [[4], [89], [4], [91], [10], [4], [94], [93, 95], [92, 96], [90, 97], [98], []] 12 [(89, 16), (90, 618970019642690137449562112), (91, 16), (92, 2475880078570760549798248448), (93, 1024), (94, 16), (95, 19807040628566084398385987584), (96, 49517601571415210995964968960), (97, 84179922671405858693140447232), (98, 159694265067814055461987024896), (8, 316912650057057350374175801344), (9, 0)] mixed (by kernel_rfl) rfl rfl)
        | ((first | apply U_ | (apply Ug_; exact rfl; exact rfl) | (apply Ugq_; exact rfl; exact rfl) | apply Lex.u | (apply Lex.g; exact rfl; exact rfl) | (apply Lex.gq; exact rfl; exact rfl)); (first
    | (apply Q_move; (refine Ev.of rfl ?_; first | exact fun _ => ⟨⟩ | exact id | exact And.right | exact And.left | exact (·.1.2) | exact (·.1.1) | exact (·.1.1.1) | exact (·.1.1.2)))
    | (apply Q_assign; (refine Ev.of rfl ?_; first | exact fun _ => ⟨⟩ | exact id | exact And.right | exact And.left | exact (·.1.2) | exact (·.1.1) | exact (·.1.1.1) | exact (·.1.1.2)))
    | (apply Q_fieldp TYok; (refine Ev.of rfl ?_; first | exact fun _ => ⟨⟩ | exact id | exact And.right | exact And.left | exact (·.1.2) | exact (·.1.1) | exact (·.1.1.1) | exact (·.1.1.2)); exact rfl; exact rfl; exact rfl; exact rfl; exact rfl)
    | (apply Q_field TYok; (refine Ev.of rfl ?_; first | exact fun _ => ⟨⟩ | exact id | exact And.right | exact And.left | exact (·.1.2) | exact (·.1.1) | exact (·.1.1.1) | exact (·.1.1.2)); exact rfl; exact rfl; exact rfl; exact rfl; exact rfl)
    | (apply Q_loadp TYok; exact rfl; exact rfl; (refine Ev.of rfl ?_; first | exact fun _ => ⟨⟩ | exact id | exact And.right | exact And.left | exact (·.1.2) | exact (·.1.1) | exact (·.1.1.1) | exact (·.1.1.2)); exact rfl)
    | (apply Q_load TYok; exact rfl; exact rfl; (refine Ev.of rfl ?_; first | exact fun _ => ⟨⟩ | exact id | exact And.right | exact And.left | exact (·.1.2) | exact (·.1.1) | exact (·.1.1.1) | exact (·.1.1.2)); exact rfl; exact rfl; exact rfl)
    | (apply Q_loadm TYok; exact rfl; exact rfl; (refine Ev.of rfl ?_; first | exact fun _ => ⟨⟩ | exact id | exact And.right | exact And.left | exact (·.1.2) | exact (·.1.1) | exact (·.1.1.1) | exact (·.1.1.2)); exact rfl; (intro hg; first | omega | (simp; omega) | (simp at hg; simp; omega)); exact rfl; infer_instance)
    | (apply Q_loadpa TYok; exact rfl; exact rfl; (refine Ev.of rfl ?_; first | exact fun _ => ⟨⟩ | exact id | exact And.right | exact And.left | exact (·.1.2) | exact (·.1.1) | exact (·.1.1.1) | exact (·.1.1.2)); exact rfl)
    | (apply Q_loada TYok; exact rfl; exact rfl; (refine Ev.of rfl ?_; first | exact fun _ => ⟨⟩ | exact id | exact And.right | exact And.left | exact (·.1.2) | exact (·.1.1) | exact (·.1.1.1) | exact (·.1.1.2)); exact rfl; exact rfl; exact rfl)
    | (apply Q_loadma TYok; exact rfl; exact rfl; (refine Ev.of rfl ?_; first | exact fun _ => ⟨⟩ | exact id | exact And.right | exact And.left | exact (·.1.2) | exact (·.1.1) | exact (·.1.1.1) | exact (·.1.1.2)); exact rfl; (intro hg; first | omega | (simp; omega) | (simp at hg; simp; omega)); exact rfl; infer_instance)
    | (apply Q_add; (refine Ev.of rfl ?_; first | exact fun _ => ⟨⟩ | exact id | exact And.right | exact And.left | exact (·.1.2) | exact (·.1.1) | exact (·.1.1.1) | exact (·.1.1.2)); (refine Ev.of rfl ?_; first | exact fun _ => ⟨⟩ | exact id | exact And.right | exact And.left | exact (·.1.2) | exact (·.1.1) | exact (·.1.1.1) | exact (·.1.1.2)); (first | omega | (constructor <;> omega)))
    | (apply Q_bin; (refine Ev.of rfl ?_; first | exact fun _ => ⟨⟩ | exact id | exact And.right | exact And.left | exact (·.1.2) | exact (·.1.1) | exact (·.1.1.1) | exact (·.1.1.2)); (refine Ev.of rfl ?_; first | exact fun _ => ⟨⟩ | exact id | exact And.right | exact And.left | exact (·.1.2) | exact (·.1.1) | exact (·.1.1.1) | exact (·.1.1.2)); exact rfl)
    | (apply Q_or; (refine Ev.of rfl ?_; first | exact fun _ => ⟨⟩ | exact id | exact And.right | exact And.left | exact (·.1.2) | exact (·.1.1) | exact (·.1.1.1) | exact (·.1.1.2)); (refine Ev.of rfl ?_; first | exact fun _ => ⟨⟩ | exact id | exact And.right | exact And.left | exact (·.1.2) | exact (·.1.1) | exact (·.1.1.1) | exact (·.1.1.2)))
    | (apply Q_and; (refine Ev.of rfl ?_; first | exact fun _ => ⟨⟩ | exact id | exact And.right | exact And.left | exact (·.1.2) | exact (·.1.1) | exact (·.1.1.1) | exact (·.1.1.2)); (refine Ev.of rfl ?_; first | exact fun _ => ⟨⟩ | exact id | exact And.right | exact And.left | exact (·.1.2) | exact (·.1.1) | exact (·.1.1.1) | exact (·.1.1.2)))
    | (apply Q_not; (refine Ev.of rfl ?_; first | exact fun _ => ⟨⟩ | exact id | exact And.right | exact And.left | exact (·.1.2) | exact (·.1.1) | exact (·.1.1.1) | exact (·.1.1.2)))
    | (apply Q_min; (refine Ev.of rfl ?_; first | exact fun _ => ⟨⟩ | exact id | exact And.right | exact And.left | exact (·.1.2) | exact (·.1.1) | exact (·.1.1.1) | exact (·.1.1.2)); (refine Ev.of rfl ?_; first | exact fun _ => ⟨⟩ | exact id | exact And.right | exact And.left | exact (·.1.2) | exact (·.1.1) | exact (·.1.1.1) | exact (·.1.1.2)))
    | (apply Q_lenm TYok; (refine Ev.of rfl ?_; first | exact fun _ => ⟨⟩ | exact id | exact And.right | exact And.left | exact (·.1.2) | exact (·.1.1) | exact (·.1.1.1) | exact (·.1.1.2)); exact rfl; exact rfl)
    | (apply Q_lend TYok; (refine Ev.of rfl ?_; first | exact fun _ => ⟨⟩ | exact id | exact And.right | exact And.left | exact (·.1.2) | exact (·.1.1) | exact (·.1.1.1) | exact (·.1.1.2)); exact rfl; exact rfl)
    | (apply Q_lenom TYok; (refine Ev.of rfl ?_; first | exact fun _ => ⟨⟩ | exact id | exact And.right | exact And.left | exact (·.1.2) | exact (·.1.1) | exact (·.1.1.1) | exact (·.1.1.2)); exact rfl; exact rfl; exact rfl)
    | (apply Q_len TYok; (refine Ev.of rfl ?_; first | exact fun _ => ⟨⟩ | exact id | exact And.right | exact And.left | exact (·.1.2) | exact (·.1.1) | exact (·.1.1.1) | exact (·.1.1.2)); exact rfl; exact rfl; exact rfl)
    | (apply Q_len0 TYok; (refine Ev.of rfl ?_; first | exact fun _ => ⟨⟩ | exact id | exact And.right | exact And.left | exact (·.1.2) | exact (·.1.1) | exact (·.1.1.1) | exact (·.1.1.2)); exact rfl; exact rfl)
    | (apply Q_lens TYok; (refine Ev.of rfl ?_; first | exact fun _ => ⟨⟩ | exact id | exact And.right | exact And.left | exact (·.1.2) | exact (·.1.1) | exact (·.1.1.1) | exact (·.1.1.2)); exact rfl; exact rfl)
    | (apply Q_indexd TYok; (refine Ev.of rfl ?_; first | exact fun _ => ⟨⟩ | exact id | exact And.right | exact And.left | exact (·.1.2) | exact (·.1.1) | exact (·.1.1.1) | exact (·.1.1.2)); (refine Ev.of rfl ?_; first | exact fun _ => ⟨⟩ | exact id | exact And.right | exact And.left | exact (·.1.2) | exact (·.1.1) | exact (·.1.1.1) | exact (·.1.1.2)); exact rfl; exact rfl; exact rfl; (intro hg; first | exact getRowN (by first | omega | (simp at hg; omega)) | exact getRowI (by first | omega | (simp at hg; omega))); exact rfl)
    | (apply Q_index TYok; (refine Ev.of rfl ?_; first | exact fun _ => ⟨⟩ | exact id | exact And.right | exact And.left | exact (·.1.2) | exact (·.1.1) | exact (·.1.1.1) | exact (·.1.1.2)); (refine Ev.of rfl ?_; first | exact fun _ => ⟨⟩ | exact id | exact And.right | exact And.left | exact (·.1.2) | exact (·.1.1) | exact (·.1.1.1) | exact (·.1.1.2)); exact rfl; exact rfl; exact rfl; exact rfl; exact rfl; (intro hg; first | (simp; omega) | (simp at hg; simp; omega)))
    | (apply Q_binS; (refine Ev.of rfl ?_; first | exact fun _ => ⟨⟩ | exact id | exact And.right | exact And.left | exact (·.1.2) | exact (·.1.1) | exact (·.1.1.1) | exact (·.1.1.2)); (refine Ev.of rfl ?_; first | exact fun _ => ⟨⟩ | exact id | exact And.right | exact And.left | exact (·.1.2) | exact (·.1.1) | exact (·.1.1.1) | exact (·.1.1.2)); exact rfl)
    | (apply Q_binB TYok; (refine Ev.of rfl ?_; first | exact fun _ => ⟨⟩ | exact id | exact And.right | exact And.left | exact (·.1.2) | exact (·.1.1) | exact (·.1.1.1) | exact (·.1.1.2)); (refine Ev.of rfl ?_; first | exact fun _ => ⟨⟩ | exact id | exact And.right | exact And.left | exact (·.1.2) | exact (·.1.1) | exact (·.1.1.1) | exact (·.1.1.2)); exact rfl; exact rfl; exact rfl)
    | (apply Q_call (share_ok s b.share ⟨h2, h3⟩ hr.2.2); (repeat (first | exact EvL.nil | refine EvL.cons (by refine Ev.of rfl ?_; first | exact fun _ => ⟨⟩ | exact id | exact And.right | exact And.left | exact (·.1.2) | exact (·.1.1) | exact (·.1.1.1) | exact (·.1.1.2)) rfl (by first | exact PSub.rfl' | exact PSub.nil') ?_)); exact rfl)); exact rfl)
        | (apply S_box; (refine Ev.of rfl ?_; first | exact fun _ => ⟨⟩ | exact id | exact And.right | exact And.left | exact (·.1.2) | exact (·.1.1) | exact (·.1.1.1) | exact (·.1.1.2)); exact rfl; exact rfl; exact rfl)
        | (apply RG.gT; exact rfl; exact rfl; (first | assumption | decide))
        | (apply RG.gF; exact rfl; exact rfl; (first | assumption | decide); exact rfl)
        | (refine W.cond (by refine Ev.of rfl ?_; first | exact fun _ => ⟨⟩ | exact id | exact And.right | exact And.left | exact (·.1.2) | exact (·.1.1) | exact (·.1.1.1) | exact (·.1.1.2)) (fun hb => ?_) (fun hb => ?_) <;> (try simp at hb) <;> (try (exfalso; omega))))
      have hw : IntKind.i64.wrap (b.start + shareF s b.share) = b.start + shareF s b.share := i64_id (by unfold shareF; omega)
      have es : sumF b fs i d = s := by rw [h4, List.drop_length, lastSum]; omega
      have e3 : sizeF b fs i d = (min b.cap (IntKind.i64.wrap (b.start + shareF s b.share)), 0) := by
        rw [e2, es, sizeV, hw]
      rw [e3]
      exact Fin.ret (by repeat (first | exact ResL.nil | refine ResL.cons rfl rfl (by first | exact PSub.rfl' | exact PSub.nil' | (refine PSub.of_eq ?_; simp; done) | (refine PSub.of_eq ?_; simp only [List.map_append, List.map_cons, List.map_nil]; rfl) | (refine PSub.of_eq ?_; simp; rfl)) ?_))
end Go.Proofs.Ytceggnkijedonaa
