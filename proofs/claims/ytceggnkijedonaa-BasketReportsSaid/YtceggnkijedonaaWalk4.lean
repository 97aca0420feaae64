/-
  slices.Clone, comparing and bounding lists, and the examples.
-/
import Derived.Test.YtceggnkijedonaaWalk3
set_option linter.unusedVariables false
set_option linter.unusedSimpArgs false
set_option maxHeartbeats 8000000
namespace Go.Proofs.Ytceggnkijedonaa
open Lf Go
attribute [local irreducible] PureOp EffOp Ev RG W Then InBlock Lf.Fin nth App InitE Pick SubE SubF SubG EvL EvD EvP EvR ResL Lex SubR SubBR RA RAll EvC FinO EvA

theorem cloneU_ok (l : List Use) (hl : big l.length) : OCalls Try.prog 32 [slU l] 27 3 (l.map encU) := by
  refine OCalls.of_W 2 8 Try.func32 (by kernel_rfl) rfl rfl rfl rfl fun G => ?_
  apply W.init (by repeat (first | exact InitE.nil | apply InitE.c0 | apply InitE.c1 | apply InitE.c2 | apply InitE.c3 | apply InitE.c4 | apply InitE.c5 | apply InitE.c6 | apply InitE.c7 | apply InitE.c8 | apply InitE.c9 | apply InitE.c10 | apply InitE.c11))
  repeat' (first
    | apply RG.nil
    | apply Lex.nil
    | apply Then.n
    | apply Then.r
    | apply Then.x
    | apply InBlock.n
    | apply InBlock.r
    | apply InBlock.hit
    | (apply InBlock.miss; exact rfl)
    | apply W.seq
    | apply W.region
    | apply W.block
    | apply W.skip
    | apply W.ret
    | apply W.exit
    | ((first | apply U_); (first
    | (apply Q_move; (refine Ev.of rfl ?_; first | exact fun _ => ⟨⟩ | exact id | exact And.right | exact And.left | exact (·.1.2) | exact (·.1.1) | exact (·.1.1.1) | exact (·.1.1.2)))
    | (apply Q_assign; (refine Ev.of rfl ?_; first | exact fun _ => ⟨⟩ | exact id | exact And.right | exact And.left | exact (·.1.2) | exact (·.1.1) | exact (·.1.1.1) | exact (·.1.1.2)))
    | (apply Q_bin; (refine Ev.of rfl ?_; first | exact fun _ => ⟨⟩ | exact id | exact And.right | exact And.left | exact (·.1.2) | exact (·.1.1) | exact (·.1.1.1) | exact (·.1.1.2)); (refine Ev.of rfl ?_; first | exact fun _ => ⟨⟩ | exact id | exact And.right | exact And.left | exact (·.1.2) | exact (·.1.1) | exact (·.1.1.1) | exact (·.1.1.2)); exact rfl)
    | (apply Q_binS; (refine Ev.of rfl ?_; first | exact fun _ => ⟨⟩ | exact id | exact And.right | exact And.left | exact (·.1.2) | exact (·.1.1) | exact (·.1.1.1) | exact (·.1.1.2)); (refine Ev.of rfl ?_; first | exact fun _ => ⟨⟩ | exact id | exact And.right | exact And.left | exact (·.1.2) | exact (·.1.1) | exact (·.1.1.1) | exact (·.1.1.2)); exact rfl)
    | (apply Q_binB TYok; (refine Ev.of rfl ?_; first | exact fun _ => ⟨⟩ | exact id | exact And.right | exact And.left | exact (·.1.2) | exact (·.1.1) | exact (·.1.1.1) | exact (·.1.1.2)); (refine Ev.of rfl ?_; first | exact fun _ => ⟨⟩ | exact id | exact And.right | exact And.left | exact (·.1.2) | exact (·.1.1) | exact (·.1.1.1) | exact (·.1.1.2)); exact rfl; exact rfl; exact rfl)); exact rfl)
    | (apply S_lit TYok; (repeat (first | exact EvR.nil | apply EvR.cons (by refine Ev.of rfl ?_; first | exact fun _ => ⟨⟩ | exact id | exact And.right | exact And.left | exact (·.1.2) | exact (·.1.1) | exact (·.1.1.1) | exact (·.1.1.2)))); exact rfl; exact rfl; exact rfl; exact rfl; exact rfl; exact rfl; exact rfl; exact rfl; exact rfl)
    | (apply S_append TYok; (refine Ev.of rfl ?_; first | exact fun _ => ⟨⟩ | exact id | exact And.right | exact And.left | exact (·.1.2) | exact (·.1.1) | exact (·.1.1.1) | exact (·.1.1.2)); (refine Ev.of rfl ?_; first | exact fun _ => ⟨⟩ | exact id | exact And.right | exact And.left | exact (·.1.2) | exact (·.1.1) | exact (·.1.1.1) | exact (·.1.1.2)); exact rfl; exact rfl; exact rfl; exact rfl; exact rfl; exact rfl; exact rfl; exact rfl; exact rfl; exact rfl; (constructor <;> simp <;> omega); exact rfl)
    | (apply S_append0 TYok; (refine Ev.of rfl ?_; first | exact fun _ => ⟨⟩ | exact id | exact And.right | exact And.left | exact (·.1.2) | exact (·.1.1) | exact (·.1.1.1) | exact (·.1.1.2)); (refine Ev.of rfl ?_; first | exact fun _ => ⟨⟩ | exact id | exact And.right | exact And.left | exact (·.1.2) | exact (·.1.1) | exact (·.1.1.1) | exact (·.1.1.2)); exact rfl; exact rfl; exact rfl; exact rfl; exact rfl; exact rfl; exact rfl; (constructor <;> simp <;> omega); exact rfl; exact rfl)
    | (apply S_appendd TYok; (refine Ev.of rfl ?_; first | exact fun _ => ⟨⟩ | exact id | exact And.right | exact And.left | exact (·.1.2) | exact (·.1.1) | exact (·.1.1.1) | exact (·.1.1.2)); (refine Ev.of rfl ?_; first | exact fun _ => ⟨⟩ | exact id | exact And.right | exact And.left | exact (·.1.2) | exact (·.1.1) | exact (·.1.1.1) | exact (·.1.1.2)); exact rfl; exact rfl; exact rfl; exact rfl; exact rfl; exact rfl; exact rfl; exact rfl; (intro r hr; obtain ⟨_, _, rfl⟩ := List.mem_map.1 hr; rfl); (constructor <;> simp <;> omega); exact rfl)
    | (apply S_isnil TYok; exact rfl; exact rfl; exact rfl; (refine Ev.of rfl ?_; first | exact fun _ => ⟨⟩ | exact id | exact And.right | exact And.left | exact (·.1.2) | exact (·.1.1) | exact (·.1.1.1) | exact (·.1.1.2)); intro bn hnil)
    | (refine W.cond (by refine Ev.of rfl ?_; first | exact fun _ => ⟨⟩ | exact id | exact And.right | exact And.left | exact (·.1.2) | exact (·.1.1) | exact (·.1.1.1) | exact (·.1.1.2)) (fun hb => ?_) (fun hb => ?_) <;> (try simp at hb) <;> (try (exfalso; omega))))
  · exact FinO.nil rfl (hnil hb)
  · exact FinO.ret rfl rfl (by simp)
theorem cloneF_ok (l : List Fact) (hl : big l.length) : OCalls Try.prog 37 [slF l] 46 5 (l.map encF) := by
  refine OCalls.of_W 2 8 Try.func37 (by kernel_rfl) rfl rfl rfl rfl fun G => ?_
  apply W.init (by repeat (first | exact InitE.nil | apply InitE.c0 | apply InitE.c1 | apply InitE.c2 | apply InitE.c3 | apply InitE.c4 | apply InitE.c5 | apply InitE.c6 | apply InitE.c7 | apply InitE.c8 | apply InitE.c9 | apply InitE.c10 | apply InitE.c11))
  repeat' (first
    | apply RG.nil
    | apply Lex.nil
    | apply Then.n
    | apply Then.r
    | apply Then.x
    | apply InBlock.n
    | apply InBlock.r
    | apply InBlock.hit
    | (apply InBlock.miss; exact rfl)
    | apply W.seq
    | apply W.region
    | apply W.block
    | apply W.skip
    | apply W.ret
    | apply W.exit
    | ((first | apply U_); (first
    | (apply Q_move; (refine Ev.of rfl ?_; first | exact fun _ => ⟨⟩ | exact id | exact And.right | exact And.left | exact (·.1.2) | exact (·.1.1) | exact (·.1.1.1) | exact (·.1.1.2)))
    | (apply Q_assign; (refine Ev.of rfl ?_; first | exact fun _ => ⟨⟩ | exact id | exact And.right | exact And.left | exact (·.1.2) | exact (·.1.1) | exact (·.1.1.1) | exact (·.1.1.2)))
    | (apply Q_bin; (refine Ev.of rfl ?_; first | exact fun _ => ⟨⟩ | exact id | exact And.right | exact And.left | exact (·.1.2) | exact (·.1.1) | exact (·.1.1.1) | exact (·.1.1.2)); (refine Ev.of rfl ?_; first | exact fun _ => ⟨⟩ | exact id | exact And.right | exact And.left | exact (·.1.2) | exact (·.1.1) | exact (·.1.1.1) | exact (·.1.1.2)); exact rfl)
    | (apply Q_binS; (refine Ev.of rfl ?_; first | exact fun _ => ⟨⟩ | exact id | exact And.right | exact And.left | exact (·.1.2) | exact (·.1.1) | exact (·.1.1.1) | exact (·.1.1.2)); (refine Ev.of rfl ?_; first | exact fun _ => ⟨⟩ | exact id | exact And.right | exact And.left | exact (·.1.2) | exact (·.1.1) | exact (·.1.1.1) | exact (·.1.1.2)); exact rfl)
    | (apply Q_binB TYok; (refine Ev.of rfl ?_; first | exact fun _ => ⟨⟩ | exact id | exact And.right | exact And.left | exact (·.1.2) | exact (·.1.1) | exact (·.1.1.1) | exact (·.1.1.2)); (refine Ev.of rfl ?_; first | exact fun _ => ⟨⟩ | exact id | exact And.right | exact And.left | exact (·.1.2) | exact (·.1.1) | exact (·.1.1.1) | exact (·.1.1.2)); exact rfl; exact rfl; exact rfl)); exact rfl)
    | (apply S_lit TYok; (repeat (first | exact EvR.nil | apply EvR.cons (by refine Ev.of rfl ?_; first | exact fun _ => ⟨⟩ | exact id | exact And.right | exact And.left | exact (·.1.2) | exact (·.1.1) | exact (·.1.1.1) | exact (·.1.1.2)))); exact rfl; exact rfl; exact rfl; exact rfl; exact rfl; exact rfl; exact rfl; exact rfl; exact rfl)
    | (apply S_append TYok; (refine Ev.of rfl ?_; first | exact fun _ => ⟨⟩ | exact id | exact And.right | exact And.left | exact (·.1.2) | exact (·.1.1) | exact (·.1.1.1) | exact (·.1.1.2)); (refine Ev.of rfl ?_; first | exact fun _ => ⟨⟩ | exact id | exact And.right | exact And.left | exact (·.1.2) | exact (·.1.1) | exact (·.1.1.1) | exact (·.1.1.2)); exact rfl; exact rfl; exact rfl; exact rfl; exact rfl; exact rfl; exact rfl; exact rfl; exact rfl; exact rfl; (constructor <;> simp <;> omega); exact rfl)
    | (apply S_append0 TYok; (refine Ev.of rfl ?_; first | exact fun _ => ⟨⟩ | exact id | exact And.right | exact And.left | exact (·.1.2) | exact (·.1.1) | exact (·.1.1.1) | exact (·.1.1.2)); (refine Ev.of rfl ?_; first | exact fun _ => ⟨⟩ | exact id | exact And.right | exact And.left | exact (·.1.2) | exact (·.1.1) | exact (·.1.1.1) | exact (·.1.1.2)); exact rfl; exact rfl; exact rfl; exact rfl; exact rfl; exact rfl; exact rfl; (constructor <;> simp <;> omega); exact rfl; exact rfl)
    | (apply S_appendd TYok; (refine Ev.of rfl ?_; first | exact fun _ => ⟨⟩ | exact id | exact And.right | exact And.left | exact (·.1.2) | exact (·.1.1) | exact (·.1.1.1) | exact (·.1.1.2)); (refine Ev.of rfl ?_; first | exact fun _ => ⟨⟩ | exact id | exact And.right | exact And.left | exact (·.1.2) | exact (·.1.1) | exact (·.1.1.1) | exact (·.1.1.2)); exact rfl; exact rfl; exact rfl; exact rfl; exact rfl; exact rfl; exact rfl; exact rfl; (intro r hr; obtain ⟨_, _, rfl⟩ := List.mem_map.1 hr; rfl); (constructor <;> simp <;> omega); exact rfl)
    | (apply S_isnil TYok; exact rfl; exact rfl; exact rfl; (refine Ev.of rfl ?_; first | exact fun _ => ⟨⟩ | exact id | exact And.right | exact And.left | exact (·.1.2) | exact (·.1.1) | exact (·.1.1.1) | exact (·.1.1.2)); intro bn hnil)
    | (refine W.cond (by refine Ev.of rfl ?_; first | exact fun _ => ⟨⟩ | exact id | exact And.right | exact And.left | exact (·.1.2) | exact (·.1.1) | exact (·.1.1.1) | exact (·.1.1.2)) (fun hb => ?_) (fun hb => ?_) <;> (try simp at hb) <;> (try (exfalso; omega))))
  · exact FinO.nil rfl (hnil hb)
  · exact FinO.ret rfl rfl (by simp)
def income : Str := [105, 110, 99, 111, 109, 101]
def halfF : Basket := ⟨100, 500, 1000, income⟩
def twoF : List Fact := [⟨3, income, 8, 60, 10⟩, ⟨3, income, 8, 40, 20⟩]
theorem two_ok : ACalls Try.prog 24 [] (.pv (slF twoF)) := by
  refine ACalls.of_W (qs := [slF twoF]) [0] 4 Try.func24 (by kernel_rfl) rfl rfl rfl fun G => ?_
  apply W.init (by repeat (first | exact InitE.nil | apply InitE.c0 | apply InitE.c1 | apply InitE.c2 | apply InitE.c3 | apply InitE.c4 | apply InitE.c5 | apply InitE.c6 | apply InitE.c7 | apply InitE.c8 | apply InitE.c9 | apply InitE.c10 | apply InitE.c11))
  repeat' (first
    | apply RG.nil
    | apply Lex.nil
    | apply Then.n
    | apply Then.r
    | apply Then.x
    | apply InBlock.n
    | apply InBlock.r
    | apply InBlock.hit
    | (apply InBlock.miss; exact rfl)
    | apply W.seq
    | apply W.region
    | apply W.block
    | apply W.skip
    | apply W.ret
    | apply W.exit
    | ((first | apply U_); (first
    | (apply Q_assign; (refine Ev.of rfl ?_; first | exact fun _ => ⟨⟩ | exact id | exact And.right | exact And.left | exact (·.1.2) | exact (·.1.1) | exact (·.1.1.1) | exact (·.1.1.2)))
    | (apply Q_build TYok; (repeat (first | exact EvP.nil | apply EvP.cons (by refine Ev.of rfl ?_; first | exact fun _ => ⟨⟩ | exact id | exact And.right | exact And.left | exact (·.1.2) | exact (·.1.1) | exact (·.1.1.1) | exact (·.1.1.2)))); exact rfl; exact rfl; exact rfl; exact rfl)); exact rfl)
    | (apply S_lit TYok; (repeat (first | exact EvR.nil | apply EvR.cons (by refine Ev.of rfl ?_; first | exact fun _ => ⟨⟩ | exact id | exact And.right | exact And.left | exact (·.1.2) | exact (·.1.1) | exact (·.1.1.1) | exact (·.1.1.2)))); exact rfl; exact rfl; exact rfl; exact rfl; exact rfl; exact rfl; exact rfl; exact rfl; exact rfl)
    | (refine W.cond (by refine Ev.of rfl ?_; first | exact fun _ => ⟨⟩ | exact id | exact And.right | exact And.left | exact (·.1.2) | exact (·.1.1) | exact (·.1.1.1) | exact (·.1.1.2)) (fun hb => ?_) (fun hb => ?_) <;> (try simp at hb) <;> (try (exfalso; omega))))
  exact Fin.ret (ResL.cons rfl rfl (PSub.of_eq rfl) ResL.nil)
theorem half_ok : ACalls Try.prog 23 [] (.pv (aB halfF)) := by
  refine ACalls.of_Wcell TYok 0 23 2 Try.func23 (by kernel_rfl) rfl rfl rfl rfl rfl fun G => ?_
  apply W.init (by repeat (first | exact InitE.nil | apply InitE.c0 | apply InitE.c1 | apply InitE.c2 | apply InitE.c3 | apply InitE.c4 | apply InitE.c5 | apply InitE.c6 | apply InitE.c7 | apply InitE.c8 | apply InitE.c9 | apply InitE.c10 | apply InitE.c11))
  repeat' (first
    | apply RG.nil
    | apply Lex.nil
    | apply Then.n
    | apply Then.r
    | apply Then.x
    | apply InBlock.n
    | apply InBlock.r
    | apply InBlock.hit
    | (apply InBlock.miss; exact rfl)
    | apply W.seq
    | apply W.region
    | apply W.block
    | apply W.skip
    | apply W.ret
    | apply W.exit
    | ((first | apply U_); (first
    | (apply Q_build TYok; (repeat (first | exact EvP.nil | apply EvP.cons (by refine Ev.of rfl ?_; first | exact fun _ => ⟨⟩ | exact id | exact And.right | exact And.left | exact (·.1.2) | exact (·.1.1) | exact (·.1.1.1) | exact (·.1.1.2)))); exact rfl; exact rfl; exact rfl; exact rfl)); exact rfl)
    | (apply S_alloc TYok; exact rfl; exact rfl; exact rfl; exact rfl)
    | (apply S_store TYok; (refine Ev.of rfl ?_; first | exact fun _ => ⟨⟩ | exact id | exact And.right | exact And.left | exact (·.1.2) | exact (·.1.1) | exact (·.1.1.1) | exact (·.1.1.2)); (refine Ev.of rfl ?_; first | exact fun _ => ⟨⟩ | exact id | exact And.right | exact And.left | exact (·.1.2) | exact (·.1.1) | exact (·.1.1.1) | exact (·.1.1.2)); exact rfl; exact rfl; exact rfl; exact rfl; exact rfl)
    | (apply S_storem TYok; (refine Ev.of rfl ?_; first | exact fun _ => ⟨⟩ | exact id | exact And.right | exact And.left | exact (·.1.2) | exact (·.1.1) | exact (·.1.1.1) | exact (·.1.1.2)); (refine Ev.of rfl ?_; first | exact fun _ => ⟨⟩ | exact id | exact And.right | exact And.left | exact (·.1.2) | exact (·.1.1) | exact (·.1.1.1) | exact (·.1.1.2)); exact rfl; exact rfl; (first | omega | (simp; omega)); exact rfl; (intro z; exact rfl))
    | (refine W.cond (by refine Ev.of rfl ?_; first | exact fun _ => ⟨⟩ | exact id | exact And.right | exact And.left | exact (·.1.2) | exact (·.1.1) | exact (·.1.1.1) | exact (·.1.1.2)) (fun hb => ?_) (fun hb => ?_) <;> (try simp at hb) <;> (try (exfalso; omega))))
  exact ⟨.inr rfl, _, encB halfF, rfl, rfl, rfl⟩
theorem relL3 {Φ : Frz} {xs : Array Value} {u : Use} (h : RelL Φ xs.toList (encU u)) : xs = #[.int .i64 u.issue, .int .i64 u.amount, .int .i64 u.day] := by
  obtain ⟨l⟩ := xs
  match l, h with
  | [a, b, c], ⟨h1, h2, h3, _⟩ => cases h1; cases h2; cases h3; rfl
theorem eqU_fields (xs ys : Array Value) (a b : Use) (hx : xs = #[.int .i64 a.issue, .int .i64 a.amount, .int .i64 a.day]) (hy : ys = #[.int .i64 b.issue, .int .i64 b.amount, .int .i64 b.day]) (w : World) : (Op.equalIn 10000 27 (.agg xs) (.agg ys)).run Try.prog w = .ok (decide (a = b)) w := by
  have h1 : Try.prog.underlying 27 = some (.struct (Try.prog.fieldsOf 27)) := by kernel_rfl
  have h2 : Try.prog.stoodInHeld 27 = false := by kernel_rfl
  have h3 : Try.prog.underlying 3 = some (.int .i64) := by kernel_rfl
  have hf : (Try.prog.fieldsOf 27).toList.map (fun f => (f.name == "_", f.type, f.offset)) = [(false, 3, 0), (false, 3, 1), (false, 3, 2)] := by kernel_rfl
  rw [run_equalIn_agg w 9999 27 xs ys h1 h2]
  generalize (Try.prog.fieldsOf 27).toList = l at hf
  rcases l with _ | ⟨f0, _ | ⟨f1, _ | ⟨f2, _ | ⟨f3, l⟩⟩⟩⟩
  · simp at hf
  · simp at hf
  · simp at hf
  · simp only [List.map_cons, List.map_nil, List.cons.injEq, Prod.mk.injEq, and_true, beq_eq_false_iff_ne] at hf
    obtain ⟨⟨n0, t0, o0⟩, ⟨n1, t1, o1⟩, ⟨n2, t2, o2⟩⟩ := hf
    have ag : (isAgg 3).run Try.prog w = .ok false w := Lf.run_isAgg TYok (t := 3) rfl rfl w
    have sz : (Go.sizeOf 3).run Try.prog w = .ok 1 w := Lf.run_sizeOf TYok (t := 3) rfl w
    have pt : ∀ (zs : Array Value) (k : Nat) (v : Value), zs[k]? = some v → (part 3 zs k).run Try.prog w = .ok v w := fun zs k v h => by
      simp [part, ag, sz, h]
    have hq : ∀ m n : Int, (Op.equalIn 9999 3 (.int .i64 m) (.int .i64 n)).run Try.prog w = .ok (m == n) w := fun m n => run_equalIn_int w 9998 3 .i64 .i64 m n h3
    have p0 : ∀ x y z : Value, (part 3 #[x, y, z] 0).run Try.prog w = .ok x w := fun x y z => pt _ 0 x rfl
    have p1 : ∀ x y z : Value, (part 3 #[x, y, z] 1).run Try.prog w = .ok y w := fun x y z => pt _ 1 y rfl
    have p2 : ∀ x y z : Value, (part 3 #[x, y, z] 2).run Try.prog w = .ok z w := fun x y z => pt _ 2 z rfl
    simp only [Op.eqFields, n0, n1, n2, t0, t1, t2, o0, o1, o2, hx, hy, ne_eq, not_false_eq_true, if_true, Sem.run_bind, p0, p1, p2, Result.andThen_ok, hq]
    by_cases e0 : a.issue = b.issue
    · by_cases e1 : a.amount = b.amount
      · by_cases e2 : a.day = b.day
        · have : a = b := by cases a; cases b; simp at e0 e1 e2; simp [e0, e1, e2]
          subst this
          simp [p0, p1, p2, hq]
        · have : ¬ a = b := fun e => e2 (by rw [e])
          simp [p0, p1, p2, hq, e0, e1, e2, this]
      · have : ¬ a = b := fun e => e1 (by rw [e])
        simp [p0, p1, p2, hq, e0, e1, this]
    · have : ¬ a = b := fun e => e0 (by rw [e])
      simp [p0, p1, p2, hq, e0, this]
  · simp at hf
theorem neU (x y : Operand) (a b : Use) (Φ : Frz) (xs ys : Array Value) (w : World) (h1 : RelL Φ xs.toList (encU a)) (h2 : RelL Φ ys.toList (encU b)) : (do eqGuard .neq 27 x y (.agg xs) (.agg ys); binOp .neq 27 (.agg xs) (.agg ys) : Sem Value).run Try.prog w = .ok (.bool (!decide (a = b))) w := by
  have hm : Try.prog.eqGuardType Try.prog.depth 27 = false := by kernel_rfl
  rw [Sem.run_bind, run_eqGuard_agg w .neq 27 x y xs ys hm, Result.andThen_ok, run_neq_struct, eqU_fields xs ys a b (relL3 h1) (relL3 h2)]
  rfl
theorem same_ok (a b : List Use) (ha : big a.length) (hb : big b.length) : ACalls Try.prog 16 [slU a, slU b] (.pv (cB (decide (a = b)))) := by
  refine ACalls.of_W (qs := [cB (decide (a = b))]) [4] 26 Try.func16 (by kernel_rfl) rfl rfl rfl fun G => ?_
  apply W.init (by repeat (first | exact InitE.nil | apply InitE.c0 | apply InitE.c1 | apply InitE.c2 | apply InitE.c3 | apply InitE.c4 | apply InitE.c5 | apply InitE.c6 | apply InitE.c7 | apply InitE.c8 | apply InitE.c9 | apply InitE.c10 | apply InitE.c11))
  repeat' (first
    | apply RG.nil
    | apply Lex.nil
    | apply Then.n
    | apply Then.r
    | apply Then.x
    | apply InBlock.n
    | apply InBlock.r
    | apply InBlock.hit
    | (apply InBlock.miss; exact rfl)
    | apply W.seq
    | apply W.region
    | apply W.block
    | apply W.skip
    | apply W.ret
    | apply W.exit
    | (apply W.draw2 (id := 6) [0, 0, 3, 7, 0, 0, 48, 112, 255] [[0], [5], [17, 18], [19], [1], [5], [21, 22], [23], [20, 24]] 9 [(17, 1), (18, 32), (19, 393216), (20, 524288), (21, 2), (22, 32), (23, 6291456), (24, 8388608), (25, 17825792)] mixed (by kernel_rfl) rfl rfl)
    | ((first | apply U_ | apply Lex.u | (apply Lex.g; exact rfl; exact rfl) | (apply Lex.gq; exact rfl; exact rfl)); (first
    | (apply Q_move; (refine Ev.of rfl ?_; first | exact fun _ => ⟨⟩ | exact id | exact And.right | exact And.left | exact (·.1.2) | exact (·.1.1) | exact (·.1.1.1) | exact (·.1.1.2)))
    | (apply Q_assign; (refine Ev.of rfl ?_; first | exact fun _ => ⟨⟩ | exact id | exact And.right | exact And.left | exact (·.1.2) | exact (·.1.1) | exact (·.1.1.1) | exact (·.1.1.2)))
    | (apply Q_loadp TYok; exact rfl; exact rfl; (refine Ev.of rfl ?_; first | exact fun _ => ⟨⟩ | exact id | exact And.right | exact And.left | exact (·.1.2) | exact (·.1.1) | exact (·.1.1.1) | exact (·.1.1.2)); exact rfl)
    | (apply Q_load TYok; exact rfl; exact rfl; (refine Ev.of rfl ?_; first | exact fun _ => ⟨⟩ | exact id | exact And.right | exact And.left | exact (·.1.2) | exact (·.1.1) | exact (·.1.1.1) | exact (·.1.1.2)); exact rfl; exact rfl; exact rfl)
    | (apply Q_loadm TYok; exact rfl; exact rfl; (refine Ev.of rfl ?_; first | exact fun _ => ⟨⟩ | exact id | exact And.right | exact And.left | exact (·.1.2) | exact (·.1.1) | exact (·.1.1.1) | exact (·.1.1.2)); exact rfl; (intro hg; first | omega | (simp; omega) | (simp at hg; simp; omega)); exact rfl; infer_instance)
    | (apply Q_loadpa TYok; exact rfl; exact rfl; (refine Ev.of rfl ?_; first | exact fun _ => ⟨⟩ | exact id | exact And.right | exact And.left | exact (·.1.2) | exact (·.1.1) | exact (·.1.1.1) | exact (·.1.1.2)); exact rfl)
    | (apply Q_loada TYok; exact rfl; exact rfl; (refine Ev.of rfl ?_; first | exact fun _ => ⟨⟩ | exact id | exact And.right | exact And.left | exact (·.1.2) | exact (·.1.1) | exact (·.1.1.1) | exact (·.1.1.2)); exact rfl; exact rfl; exact rfl)
    | (apply Q_loadma TYok; exact rfl; exact rfl; (refine Ev.of rfl ?_; first | exact fun _ => ⟨⟩ | exact id | exact And.right | exact And.left | exact (·.1.2) | exact (·.1.1) | exact (·.1.1.1) | exact (·.1.1.2)); exact rfl; (intro hg; first | omega | (simp; omega) | (simp at hg; simp; omega)); exact rfl; infer_instance)
    | (apply Q_add; (refine Ev.of rfl ?_; first | exact fun _ => ⟨⟩ | exact id | exact And.right | exact And.left | exact (·.1.2) | exact (·.1.1) | exact (·.1.1.1) | exact (·.1.1.2)); (refine Ev.of rfl ?_; first | exact fun _ => ⟨⟩ | exact id | exact And.right | exact And.left | exact (·.1.2) | exact (·.1.1) | exact (·.1.1.1) | exact (·.1.1.2)); (first | omega | (constructor <;> omega)))
    | (apply Q_bin; (refine Ev.of rfl ?_; first | exact fun _ => ⟨⟩ | exact id | exact And.right | exact And.left | exact (·.1.2) | exact (·.1.1) | exact (·.1.1.1) | exact (·.1.1.2)); (refine Ev.of rfl ?_; first | exact fun _ => ⟨⟩ | exact id | exact And.right | exact And.left | exact (·.1.2) | exact (·.1.1) | exact (·.1.1.1) | exact (·.1.1.2)); exact rfl)
    | (apply Q_lenm TYok; (refine Ev.of rfl ?_; first | exact fun _ => ⟨⟩ | exact id | exact And.right | exact And.left | exact (·.1.2) | exact (·.1.1) | exact (·.1.1.1) | exact (·.1.1.2)); exact rfl; exact rfl)
    | (apply Q_lend TYok; (refine Ev.of rfl ?_; first | exact fun _ => ⟨⟩ | exact id | exact And.right | exact And.left | exact (·.1.2) | exact (·.1.1) | exact (·.1.1.1) | exact (·.1.1.2)); exact rfl; exact rfl)
    | (apply Q_lenom TYok; (refine Ev.of rfl ?_; first | exact fun _ => ⟨⟩ | exact id | exact And.right | exact And.left | exact (·.1.2) | exact (·.1.1) | exact (·.1.1.1) | exact (·.1.1.2)); exact rfl; exact rfl; exact rfl)
    | (apply Q_len TYok; (refine Ev.of rfl ?_; first | exact fun _ => ⟨⟩ | exact id | exact And.right | exact And.left | exact (·.1.2) | exact (·.1.1) | exact (·.1.1.1) | exact (·.1.1.2)); exact rfl; exact rfl; exact rfl)
    | (apply Q_len0 TYok; (refine Ev.of rfl ?_; first | exact fun _ => ⟨⟩ | exact id | exact And.right | exact And.left | exact (·.1.2) | exact (·.1.1) | exact (·.1.1.1) | exact (·.1.1.2)); exact rfl; exact rfl)
    | (apply Q_lens TYok; (refine Ev.of rfl ?_; first | exact fun _ => ⟨⟩ | exact id | exact And.right | exact And.left | exact (·.1.2) | exact (·.1.1) | exact (·.1.1.1) | exact (·.1.1.2)); exact rfl; exact rfl)
    | (apply Q_indexd TYok; (refine Ev.of rfl ?_; first | exact fun _ => ⟨⟩ | exact id | exact And.right | exact And.left | exact (·.1.2) | exact (·.1.1) | exact (·.1.1.1) | exact (·.1.1.2)); (refine Ev.of rfl ?_; first | exact fun _ => ⟨⟩ | exact id | exact And.right | exact And.left | exact (·.1.2) | exact (·.1.1) | exact (·.1.1.1) | exact (·.1.1.2)); exact rfl; exact rfl; exact rfl; (intro hg; first | exact getRowN (by first | omega | (simp at hg; omega)) | exact getRowI (by first | omega | (simp at hg; omega))); exact rfl)
    | (apply Q_index TYok; (refine Ev.of rfl ?_; first | exact fun _ => ⟨⟩ | exact id | exact And.right | exact And.left | exact (·.1.2) | exact (·.1.1) | exact (·.1.1.1) | exact (·.1.1.2)); (refine Ev.of rfl ?_; first | exact fun _ => ⟨⟩ | exact id | exact And.right | exact And.left | exact (·.1.2) | exact (·.1.1) | exact (·.1.1.1) | exact (·.1.1.2)); exact rfl; exact rfl; exact rfl; exact rfl; exact rfl; (intro hg; first | (simp; omega) | (simp at hg; simp; omega)))
    | (apply Q_binS; (refine Ev.of rfl ?_; first | exact fun _ => ⟨⟩ | exact id | exact And.right | exact And.left | exact (·.1.2) | exact (·.1.1) | exact (·.1.1.1) | exact (·.1.1.2)); (refine Ev.of rfl ?_; first | exact fun _ => ⟨⟩ | exact id | exact And.right | exact And.left | exact (·.1.2) | exact (·.1.1) | exact (·.1.1.1) | exact (·.1.1.2)); exact rfl)
    | (apply Q_binB TYok; (refine Ev.of rfl ?_; first | exact fun _ => ⟨⟩ | exact id | exact And.right | exact And.left | exact (·.1.2) | exact (·.1.1) | exact (·.1.1.1) | exact (·.1.1.2)); (refine Ev.of rfl ?_; first | exact fun _ => ⟨⟩ | exact id | exact And.right | exact And.left | exact (·.1.2) | exact (·.1.1) | exact (·.1.1.1) | exact (·.1.1.2)); exact rfl; exact rfl; exact rfl)); exact rfl)
    | (refine W.cond (by refine Ev.of rfl ?_; first | exact fun _ => ⟨⟩ | exact id | exact And.right | exact And.left | exact (·.1.2) | exact (·.1.1) | exact (·.1.1.1) | exact (·.1.1.2)) (fun hb => ?_) (fun hb => ?_) <;> (try simp at hb) <;> (try (exfalso; omega))))
  · have e : decide (a = b) = false := by
      rw [decide_eq_false_iff_not]; intro e; subst e; omega
    rw [e]
    exact Fin.ret (by repeat (first | exact ResL.nil | refine ResL.cons rfl rfl (by first | exact PSub.rfl' | exact PSub.nil' | (refine PSub.of_eq ?_; simp; done) | (refine PSub.of_eq ?_; simp only [List.map_append, List.map_cons, List.map_nil]; rfl) | (refine PSub.of_eq ?_; simp; rfl)) ?_))
  have hlen : a.length = b.length := by omega
  apply W.loopP (σ := Nat) 26 [0, 1] (fun k => k ≤ a.length ∧ ∀ j, j < k → nth a j = nth b j) (fun k => [(5, vI k)]) (fun _ => []) (fun k => a.length - k) (0)
  case hp => repeat (first | exact Pick.nil | apply Pick.cons rfl)
  case h0 =>
    refine ⟨by simp, ?_⟩
    refine Le.mkR rfl rfl ?_ ?_ ?_ rfl
    · repeat (first | exact SubR.nil | apply SubR.p rfl (by first | rfl | (simp; done) | (congr 3; omega) | (congr 3; simp; omega)) | apply SubR.s rfl rfl rfl | apply SubR.a rfl rfl rfl | apply SubR.t rfl rfl | apply SubR.m rfl rfl rfl | apply SubR.i rfl rfl rfl rfl rfl)
    · repeat (first | exact SubR.nil | apply SubR.p rfl (by first | rfl | (simp; done) | (congr 3; omega) | (congr 3; simp; omega)) | apply SubR.s rfl rfl rfl | apply SubR.a rfl rfl rfl | apply SubR.t rfl rfl | apply SubR.m rfl rfl rfl | apply SubR.i rfl rfl rfl rfl rfl)
    · repeat (first | exact SubBR.nil | apply SubBR.cons rfl (by first | rfl | (simp only [List.map_append, List.map_replicate, List.map_cons, List.map_nil]; rfl) | (simp; done)))
  case round =>
    rintro k ⟨h1, h2⟩
    apply W.norm (by repeat (first | exact App.nil | apply App.cons))
    by_cases hk : k < a.length
    · skip
      repeat' (first
        | apply RG.nil
        | apply Lex.nil
        | apply Then.n
        | apply Then.r
        | apply Then.x
        | apply InBlock.n
        | apply InBlock.r
        | apply InBlock.hit
        | (apply InBlock.miss; exact rfl)
        | apply W.seq
        | apply W.region
        | apply W.block
        | apply W.skip
        | apply W.ret
        | apply W.exit
        | (apply W.draw2 (id := 6) [0, 0, 3, 7, 0, 0, 48, 112, 255] [[0], [5], [17, 18], [19], [1], [5], [21, 22], [23], [20, 24]] 9 [(17, 1), (18, 32), (19, 393216), (20, 524288), (21, 2), (22, 32), (23, 6291456), (24, 8388608), (25, 17825792)] mixed (by kernel_rfl) rfl rfl)
        | ((first | apply U_ | apply Lex.u | (apply Lex.g; exact rfl; exact rfl) | (apply Lex.gq; exact rfl; exact rfl)); (first
    | (apply Q_move; (refine Ev.of rfl ?_; first | exact fun _ => ⟨⟩ | exact id | exact And.right | exact And.left | exact (·.1.2) | exact (·.1.1) | exact (·.1.1.1) | exact (·.1.1.2)))
    | (apply Q_assign; (refine Ev.of rfl ?_; first | exact fun _ => ⟨⟩ | exact id | exact And.right | exact And.left | exact (·.1.2) | exact (·.1.1) | exact (·.1.1.1) | exact (·.1.1.2)))
    | (apply Q_loadp TYok; exact rfl; exact rfl; (refine Ev.of rfl ?_; first | exact fun _ => ⟨⟩ | exact id | exact And.right | exact And.left | exact (·.1.2) | exact (·.1.1) | exact (·.1.1.1) | exact (·.1.1.2)); exact rfl)
    | (apply Q_load TYok; exact rfl; exact rfl; (refine Ev.of rfl ?_; first | exact fun _ => ⟨⟩ | exact id | exact And.right | exact And.left | exact (·.1.2) | exact (·.1.1) | exact (·.1.1.1) | exact (·.1.1.2)); exact rfl; exact rfl; exact rfl)
    | (apply Q_loadm TYok; exact rfl; exact rfl; (refine Ev.of rfl ?_; first | exact fun _ => ⟨⟩ | exact id | exact And.right | exact And.left | exact (·.1.2) | exact (·.1.1) | exact (·.1.1.1) | exact (·.1.1.2)); exact rfl; (intro hg; first | omega | (simp; omega) | (simp at hg; simp; omega)); exact rfl; infer_instance)
    | (apply Q_loadpa TYok; exact rfl; exact rfl; (refine Ev.of rfl ?_; first | exact fun _ => ⟨⟩ | exact id | exact And.right | exact And.left | exact (·.1.2) | exact (·.1.1) | exact (·.1.1.1) | exact (·.1.1.2)); exact rfl)
    | (apply Q_loada TYok; exact rfl; exact rfl; (refine Ev.of rfl ?_; first | exact fun _ => ⟨⟩ | exact id | exact And.right | exact And.left | exact (·.1.2) | exact (·.1.1) | exact (·.1.1.1) | exact (·.1.1.2)); exact rfl; exact rfl; exact rfl)
    | (apply Q_loadma TYok; exact rfl; exact rfl; (refine Ev.of rfl ?_; first | exact fun _ => ⟨⟩ | exact id | exact And.right | exact And.left | exact (·.1.2) | exact (·.1.1) | exact (·.1.1.1) | exact (·.1.1.2)); exact rfl; (intro hg; first | omega | (simp; omega) | (simp at hg; simp; omega)); exact rfl; infer_instance)
    | (apply Q_add; (refine Ev.of rfl ?_; first | exact fun _ => ⟨⟩ | exact id | exact And.right | exact And.left | exact (·.1.2) | exact (·.1.1) | exact (·.1.1.1) | exact (·.1.1.2)); (refine Ev.of rfl ?_; first | exact fun _ => ⟨⟩ | exact id | exact And.right | exact And.left | exact (·.1.2) | exact (·.1.1) | exact (·.1.1.1) | exact (·.1.1.2)); (first | omega | (constructor <;> omega)))
    | (apply Q_bin; (refine Ev.of rfl ?_; first | exact fun _ => ⟨⟩ | exact id | exact And.right | exact And.left | exact (·.1.2) | exact (·.1.1) | exact (·.1.1.1) | exact (·.1.1.2)); (refine Ev.of rfl ?_; first | exact fun _ => ⟨⟩ | exact id | exact And.right | exact And.left | exact (·.1.2) | exact (·.1.1) | exact (·.1.1.1) | exact (·.1.1.2)); exact rfl)
    | (apply Q_lenm TYok; (refine Ev.of rfl ?_; first | exact fun _ => ⟨⟩ | exact id | exact And.right | exact And.left | exact (·.1.2) | exact (·.1.1) | exact (·.1.1.1) | exact (·.1.1.2)); exact rfl; exact rfl)
    | (apply Q_lend TYok; (refine Ev.of rfl ?_; first | exact fun _ => ⟨⟩ | exact id | exact And.right | exact And.left | exact (·.1.2) | exact (·.1.1) | exact (·.1.1.1) | exact (·.1.1.2)); exact rfl; exact rfl)
    | (apply Q_lenom TYok; (refine Ev.of rfl ?_; first | exact fun _ => ⟨⟩ | exact id | exact And.right | exact And.left | exact (·.1.2) | exact (·.1.1) | exact (·.1.1.1) | exact (·.1.1.2)); exact rfl; exact rfl; exact rfl)
    | (apply Q_len TYok; (refine Ev.of rfl ?_; first | exact fun _ => ⟨⟩ | exact id | exact And.right | exact And.left | exact (·.1.2) | exact (·.1.1) | exact (·.1.1.1) | exact (·.1.1.2)); exact rfl; exact rfl; exact rfl)
    | (apply Q_len0 TYok; (refine Ev.of rfl ?_; first | exact fun _ => ⟨⟩ | exact id | exact And.right | exact And.left | exact (·.1.2) | exact (·.1.1) | exact (·.1.1.1) | exact (·.1.1.2)); exact rfl; exact rfl)
    | (apply Q_lens TYok; (refine Ev.of rfl ?_; first | exact fun _ => ⟨⟩ | exact id | exact And.right | exact And.left | exact (·.1.2) | exact (·.1.1) | exact (·.1.1.1) | exact (·.1.1.2)); exact rfl; exact rfl)
    | (apply Q_indexd TYok; (refine Ev.of rfl ?_; first | exact fun _ => ⟨⟩ | exact id | exact And.right | exact And.left | exact (·.1.2) | exact (·.1.1) | exact (·.1.1.1) | exact (·.1.1.2)); (refine Ev.of rfl ?_; first | exact fun _ => ⟨⟩ | exact id | exact And.right | exact And.left | exact (·.1.2) | exact (·.1.1) | exact (·.1.1.1) | exact (·.1.1.2)); exact rfl; exact rfl; exact rfl; (intro hg; first | exact getRowN (by first | omega | (simp at hg; omega)) | exact getRowI (by first | omega | (simp at hg; omega))); exact rfl)
    | (apply Q_index TYok; (refine Ev.of rfl ?_; first | exact fun _ => ⟨⟩ | exact id | exact And.right | exact And.left | exact (·.1.2) | exact (·.1.1) | exact (·.1.1.1) | exact (·.1.1.2)); (refine Ev.of rfl ?_; first | exact fun _ => ⟨⟩ | exact id | exact And.right | exact And.left | exact (·.1.2) | exact (·.1.1) | exact (·.1.1.1) | exact (·.1.1.2)); exact rfl; exact rfl; exact rfl; exact rfl; exact rfl; (intro hg; first | (simp; omega) | (simp at hg; simp; omega)))
    | (apply Q_binS; (refine Ev.of rfl ?_; first | exact fun _ => ⟨⟩ | exact id | exact And.right | exact And.left | exact (·.1.2) | exact (·.1.1) | exact (·.1.1.1) | exact (·.1.1.2)); (refine Ev.of rfl ?_; first | exact fun _ => ⟨⟩ | exact id | exact And.right | exact And.left | exact (·.1.2) | exact (·.1.1) | exact (·.1.1.1) | exact (·.1.1.2)); exact rfl)
    | (apply Q_binB TYok; (refine Ev.of rfl ?_; first | exact fun _ => ⟨⟩ | exact id | exact And.right | exact And.left | exact (·.1.2) | exact (·.1.1) | exact (·.1.1.1) | exact (·.1.1.2)); (refine Ev.of rfl ?_; first | exact fun _ => ⟨⟩ | exact id | exact And.right | exact And.left | exact (·.1.2) | exact (·.1.1) | exact (·.1.1.1) | exact (·.1.1.2)); exact rfl; exact rfl; exact rfl)
    | (apply Q_binA; (refine Ev.of rfl ?_; first | exact fun _ => ⟨⟩ | exact id | exact And.right | exact And.left | exact (·.1.2) | exact (·.1.1) | exact (·.1.1.1) | exact (·.1.1.2)); (refine Ev.of rfl ?_; first | exact fun _ => ⟨⟩ | exact id | exact And.right | exact And.left | exact (·.1.2) | exact (·.1.1) | exact (·.1.1.1) | exact (·.1.1.2)); exact neU _ _ _ _)); exact rfl)
        | (refine W.cond (by refine Ev.of rfl ?_; first | exact fun _ => ⟨⟩ | exact id | exact And.right | exact And.left | exact (·.1.2) | exact (·.1.1) | exact (·.1.1.1) | exact (·.1.1.2)) (fun hb => ?_) (fun hb => ?_) <;> (try simp at hb) <;> (try (exfalso; omega))))
      · have e : decide (a = b) = false := by
          rw [decide_eq_false_iff_not]; intro e; subst e; exact hb rfl
        rw [e]
        exact Fin.ret (by repeat (first | exact ResL.nil | refine ResL.cons rfl rfl (by first | exact PSub.rfl' | exact PSub.nil' | (refine PSub.of_eq ?_; simp; done) | (refine PSub.of_eq ?_; simp only [List.map_append, List.map_cons, List.map_nil]; rfl) | (refine PSub.of_eq ?_; simp; rfl)) ?_))
      · refine ⟨k + 1, ⟨by omega, fun j hj => ?_⟩, ?_, ?_⟩
        · by_cases e : j = k
          · subst e; exact hb
          · exact h2 j (by omega)
        · refine Le.mkR rfl rfl ?_ ?_ ?_ rfl
          · repeat (first | exact SubR.nil | apply SubR.p rfl (by first | rfl | (simp; done) | (congr 3; omega) | (congr 3; simp; omega)) | apply SubR.s rfl rfl rfl | apply SubR.a rfl rfl rfl | apply SubR.t rfl rfl | apply SubR.m rfl rfl rfl | apply SubR.i rfl rfl rfl rfl rfl)
          · repeat (first | exact SubR.nil | apply SubR.p rfl (by first | rfl | (simp; done) | (congr 3; omega) | (congr 3; simp; omega)) | apply SubR.s rfl rfl rfl | apply SubR.a rfl rfl rfl | apply SubR.t rfl rfl | apply SubR.m rfl rfl rfl | apply SubR.i rfl rfl rfl rfl rfl)
          · repeat (first | exact SubBR.nil | apply SubBR.cons rfl (by first | rfl | (simp only [List.map_append, List.map_replicate, List.map_cons, List.map_nil]; rfl) | (simp; done)))
        · (try simp only); omega
    · repeat' (first
        | apply RG.nil
        | apply Lex.nil
        | apply Then.n
        | apply Then.r
        | apply Then.x
        | apply InBlock.n
        | apply InBlock.r
        | apply InBlock.hit
        | (apply InBlock.miss; exact rfl)
        | apply W.seq
        | apply W.region
        | apply W.block
        | apply W.skip
        | apply W.ret
        | apply W.exit
        | (apply W.draw2 (id := 6) [0, 0, 3, 7, 0, 0, 48, 112, 255] [[0], [5], [17, 18], [19], [1], [5], [21, 22], [23], [20, 24]] 9 [(17, 1), (18, 32), (19, 393216), (20, 524288), (21, 2), (22, 32), (23, 6291456), (24, 8388608), (25, 17825792)] mixed (by kernel_rfl) rfl rfl)
        | ((first | apply U_ | apply Lex.u | (apply Lex.g; exact rfl; exact rfl) | (apply Lex.gq; exact rfl; exact rfl)); (first
    | (apply Q_move; (refine Ev.of rfl ?_; first | exact fun _ => ⟨⟩ | exact id | exact And.right | exact And.left | exact (·.1.2) | exact (·.1.1) | exact (·.1.1.1) | exact (·.1.1.2)))
    | (apply Q_assign; (refine Ev.of rfl ?_; first | exact fun _ => ⟨⟩ | exact id | exact And.right | exact And.left | exact (·.1.2) | exact (·.1.1) | exact (·.1.1.1) | exact (·.1.1.2)))
    | (apply Q_loadp TYok; exact rfl; exact rfl; (refine Ev.of rfl ?_; first | exact fun _ => ⟨⟩ | exact id | exact And.right | exact And.left | exact (·.1.2) | exact (·.1.1) | exact (·.1.1.1) | exact (·.1.1.2)); exact rfl)
    | (apply Q_load TYok; exact rfl; exact rfl; (refine Ev.of rfl ?_; first | exact fun _ => ⟨⟩ | exact id | exact And.right | exact And.left | exact (·.1.2) | exact (·.1.1) | exact (·.1.1.1) | exact (·.1.1.2)); exact rfl; exact rfl; exact rfl)
    | (apply Q_loadm TYok; exact rfl; exact rfl; (refine Ev.of rfl ?_; first | exact fun _ => ⟨⟩ | exact id | exact And.right | exact And.left | exact (·.1.2) | exact (·.1.1) | exact (·.1.1.1) | exact (·.1.1.2)); exact rfl; (intro hg; first | omega | (simp; omega) | (simp at hg; simp; omega)); exact rfl; infer_instance)
    | (apply Q_loadpa TYok; exact rfl; exact rfl; (refine Ev.of rfl ?_; first | exact fun _ => ⟨⟩ | exact id | exact And.right | exact And.left | exact (·.1.2) | exact (·.1.1) | exact (·.1.1.1) | exact (·.1.1.2)); exact rfl)
    | (apply Q_loada TYok; exact rfl; exact rfl; (refine Ev.of rfl ?_; first | exact fun _ => ⟨⟩ | exact id | exact And.right | exact And.left | exact (·.1.2) | exact (·.1.1) | exact (·.1.1.1) | exact (·.1.1.2)); exact rfl; exact rfl; exact rfl)
    | (apply Q_loadma TYok; exact rfl; exact rfl; (refine Ev.of rfl ?_; first | exact fun _ => ⟨⟩ | exact id | exact And.right | exact And.left | exact (·.1.2) | exact (·.1.1) | exact (·.1.1.1) | exact (·.1.1.2)); exact rfl; (intro hg; first | omega | (simp; omega) | (simp at hg; simp; omega)); exact rfl; infer_instance)
    | (apply Q_add; (refine Ev.of rfl ?_; first | exact fun _ => ⟨⟩ | exact id | exact And.right | exact And.left | exact (·.1.2) | exact (·.1.1) | exact (·.1.1.1) | exact (·.1.1.2)); (refine Ev.of rfl ?_; first | exact fun _ => ⟨⟩ | exact id | exact And.right | exact And.left | exact (·.1.2) | exact (·.1.1) | exact (·.1.1.1) | exact (·.1.1.2)); (first | omega | (constructor <;> omega)))
    | (apply Q_bin; (refine Ev.of rfl ?_; first | exact fun _ => ⟨⟩ | exact id | exact And.right | exact And.left | exact (·.1.2) | exact (·.1.1) | exact (·.1.1.1) | exact (·.1.1.2)); (refine Ev.of rfl ?_; first | exact fun _ => ⟨⟩ | exact id | exact And.right | exact And.left | exact (·.1.2) | exact (·.1.1) | exact (·.1.1.1) | exact (·.1.1.2)); exact rfl)
    | (apply Q_lenm TYok; (refine Ev.of rfl ?_; first | exact fun _ => ⟨⟩ | exact id | exact And.right | exact And.left | exact (·.1.2) | exact (·.1.1) | exact (·.1.1.1) | exact (·.1.1.2)); exact rfl; exact rfl)
    | (apply Q_lend TYok; (refine Ev.of rfl ?_; first | exact fun _ => ⟨⟩ | exact id | exact And.right | exact And.left | exact (·.1.2) | exact (·.1.1) | exact (·.1.1.1) | exact (·.1.1.2)); exact rfl; exact rfl)
    | (apply Q_lenom TYok; (refine Ev.of rfl ?_; first | exact fun _ => ⟨⟩ | exact id | exact And.right | exact And.left | exact (·.1.2) | exact (·.1.1) | exact (·.1.1.1) | exact (·.1.1.2)); exact rfl; exact rfl; exact rfl)
    | (apply Q_len TYok; (refine Ev.of rfl ?_; first | exact fun _ => ⟨⟩ | exact id | exact And.right | exact And.left | exact (·.1.2) | exact (·.1.1) | exact (·.1.1.1) | exact (·.1.1.2)); exact rfl; exact rfl; exact rfl)
    | (apply Q_len0 TYok; (refine Ev.of rfl ?_; first | exact fun _ => ⟨⟩ | exact id | exact And.right | exact And.left | exact (·.1.2) | exact (·.1.1) | exact (·.1.1.1) | exact (·.1.1.2)); exact rfl; exact rfl)
    | (apply Q_lens TYok; (refine Ev.of rfl ?_; first | exact fun _ => ⟨⟩ | exact id | exact And.right | exact And.left | exact (·.1.2) | exact (·.1.1) | exact (·.1.1.1) | exact (·.1.1.2)); exact rfl; exact rfl)
    | (apply Q_indexd TYok; (refine Ev.of rfl ?_; first | exact fun _ => ⟨⟩ | exact id | exact And.right | exact And.left | exact (·.1.2) | exact (·.1.1) | exact (·.1.1.1) | exact (·.1.1.2)); (refine Ev.of rfl ?_; first | exact fun _ => ⟨⟩ | exact id | exact And.right | exact And.left | exact (·.1.2) | exact (·.1.1) | exact (·.1.1.1) | exact (·.1.1.2)); exact rfl; exact rfl; exact rfl; (intro hg; first | exact getRowN (by first | omega | (simp at hg; omega)) | exact getRowI (by first | omega | (simp at hg; omega))); exact rfl)
    | (apply Q_index TYok; (refine Ev.of rfl ?_; first | exact fun _ => ⟨⟩ | exact id | exact And.right | exact And.left | exact (·.1.2) | exact (·.1.1) | exact (·.1.1.1) | exact (·.1.1.2)); (refine Ev.of rfl ?_; first | exact fun _ => ⟨⟩ | exact id | exact And.right | exact And.left | exact (·.1.2) | exact (·.1.1) | exact (·.1.1.1) | exact (·.1.1.2)); exact rfl; exact rfl; exact rfl; exact rfl; exact rfl; (intro hg; first | (simp; omega) | (simp at hg; simp; omega)))
    | (apply Q_binS; (refine Ev.of rfl ?_; first | exact fun _ => ⟨⟩ | exact id | exact And.right | exact And.left | exact (·.1.2) | exact (·.1.1) | exact (·.1.1.1) | exact (·.1.1.2)); (refine Ev.of rfl ?_; first | exact fun _ => ⟨⟩ | exact id | exact And.right | exact And.left | exact (·.1.2) | exact (·.1.1) | exact (·.1.1.1) | exact (·.1.1.2)); exact rfl)
    | (apply Q_binB TYok; (refine Ev.of rfl ?_; first | exact fun _ => ⟨⟩ | exact id | exact And.right | exact And.left | exact (·.1.2) | exact (·.1.1) | exact (·.1.1.1) | exact (·.1.1.2)); (refine Ev.of rfl ?_; first | exact fun _ => ⟨⟩ | exact id | exact And.right | exact And.left | exact (·.1.2) | exact (·.1.1) | exact (·.1.1.1) | exact (·.1.1.2)); exact rfl; exact rfl; exact rfl)); exact rfl)
        | (refine W.cond (by refine Ev.of rfl ?_; first | exact fun _ => ⟨⟩ | exact id | exact And.right | exact And.left | exact (·.1.2) | exact (·.1.1) | exact (·.1.1.1) | exact (·.1.1.2)) (fun hb => ?_) (fun hb => ?_) <;> (try simp at hb) <;> (try (exfalso; omega))))
      have e : decide (a = b) = true := by
        rw [decide_eq_true_iff]
        apply List.ext_getElem hlen
        intro j q1 q2
        have := h2 j (by omega)
        simpa [nth, List.getD, List.getElem?_eq_getElem q1, List.getElem?_eq_getElem q2] using this
      rw [e]
      exact Fin.ret (by repeat (first | exact ResL.nil | refine ResL.cons rfl rfl (by first | exact PSub.rfl' | exact PSub.nil' | (refine PSub.of_eq ?_; simp; done) | (refine PSub.of_eq ?_; simp only [List.map_append, List.map_cons, List.map_nil]; rfl) | (refine PSub.of_eq ?_; simp; rfl)) ?_))
def fewF (b : Basket) (fs : List Fact) (us : List Use) : Bool := !(decide ((fs.length : Int) > 30) || decide ((us.length : Int) > 30) || decide ((b.name.length : Int) > 40)) && fs.all fun f => decide ((f.name.length : Int) ≤ 40)
theorem few_ok (b : Basket) (fs : List Fact) (us : List Use) : ACalls Try.prog 9 [aB b, slF fs, slU us] (.pv (cB (fewF b fs us))) := by
  refine ACalls.of_W (qs := [cB (fewF b fs us)]) [6] 35 Try.func9 (by kernel_rfl) rfl rfl rfl fun G => ?_
  apply W.init (by repeat (first | exact InitE.nil | apply InitE.c0 | apply InitE.c1 | apply InitE.c2 | apply InitE.c3 | apply InitE.c4 | apply InitE.c5 | apply InitE.c6 | apply InitE.c7 | apply InitE.c8 | apply InitE.c9 | apply InitE.c10 | apply InitE.c11))
  repeat' (first
    | apply RG.nil
    | apply Lex.nil
    | apply Then.n
    | apply Then.r
    | apply Then.x
    | apply InBlock.n
    | apply InBlock.r
    | apply InBlock.hit
    | (apply InBlock.miss; exact rfl)
    | apply W.seq
    | apply W.region
    | apply W.block
    | apply W.skip
    | apply W.ret
    | apply W.exit
    | ((first | apply U_ | (apply Ug_; exact rfl; exact rfl) | (apply Ugq_; exact rfl; exact rfl)); (first
    | (apply Q_move; (refine Ev.of rfl ?_; first | exact fun _ => ⟨⟩ | exact id | exact And.right | exact And.left | exact (·.1.2) | exact (·.1.1) | exact (·.1.1.1) | exact (·.1.1.2)))
    | (apply Q_assign; (refine Ev.of rfl ?_; first | exact fun _ => ⟨⟩ | exact id | exact And.right | exact And.left | exact (·.1.2) | exact (·.1.1) | exact (·.1.1.1) | exact (·.1.1.2)))
    | (apply Q_fieldp TYok; (refine Ev.of rfl ?_; first | exact fun _ => ⟨⟩ | exact id | exact And.right | exact And.left | exact (·.1.2) | exact (·.1.1) | exact (·.1.1.1) | exact (·.1.1.2)); exact rfl; exact rfl; exact rfl; exact rfl; exact rfl)
    | (apply Q_field TYok; (refine Ev.of rfl ?_; first | exact fun _ => ⟨⟩ | exact id | exact And.right | exact And.left | exact (·.1.2) | exact (·.1.1) | exact (·.1.1.1) | exact (·.1.1.2)); exact rfl; exact rfl; exact rfl; exact rfl; exact rfl)
    | (apply Q_loadp TYok; exact rfl; exact rfl; (refine Ev.of rfl ?_; first | exact fun _ => ⟨⟩ | exact id | exact And.right | exact And.left | exact (·.1.2) | exact (·.1.1) | exact (·.1.1.1) | exact (·.1.1.2)); exact rfl)
    | (apply Q_load TYok; exact rfl; exact rfl; (refine Ev.of rfl ?_; first | exact fun _ => ⟨⟩ | exact id | exact And.right | exact And.left | exact (·.1.2) | exact (·.1.1) | exact (·.1.1.1) | exact (·.1.1.2)); exact rfl; exact rfl; exact rfl)
    | (apply Q_loadm TYok; exact rfl; exact rfl; (refine Ev.of rfl ?_; first | exact fun _ => ⟨⟩ | exact id | exact And.right | exact And.left | exact (·.1.2) | exact (·.1.1) | exact (·.1.1.1) | exact (·.1.1.2)); exact rfl; (intro hg; first | omega | (simp; omega) | (simp at hg; simp; omega)); exact rfl; infer_instance)
    | (apply Q_loadpa TYok; exact rfl; exact rfl; (refine Ev.of rfl ?_; first | exact fun _ => ⟨⟩ | exact id | exact And.right | exact And.left | exact (·.1.2) | exact (·.1.1) | exact (·.1.1.1) | exact (·.1.1.2)); exact rfl)
    | (apply Q_loada TYok; exact rfl; exact rfl; (refine Ev.of rfl ?_; first | exact fun _ => ⟨⟩ | exact id | exact And.right | exact And.left | exact (·.1.2) | exact (·.1.1) | exact (·.1.1.1) | exact (·.1.1.2)); exact rfl; exact rfl; exact rfl)
    | (apply Q_loadma TYok; exact rfl; exact rfl; (refine Ev.of rfl ?_; first | exact fun _ => ⟨⟩ | exact id | exact And.right | exact And.left | exact (·.1.2) | exact (·.1.1) | exact (·.1.1.1) | exact (·.1.1.2)); exact rfl; (intro hg; first | omega | (simp; omega) | (simp at hg; simp; omega)); exact rfl; infer_instance)
    | (apply Q_add; (refine Ev.of rfl ?_; first | exact fun _ => ⟨⟩ | exact id | exact And.right | exact And.left | exact (·.1.2) | exact (·.1.1) | exact (·.1.1.1) | exact (·.1.1.2)); (refine Ev.of rfl ?_; first | exact fun _ => ⟨⟩ | exact id | exact And.right | exact And.left | exact (·.1.2) | exact (·.1.1) | exact (·.1.1.1) | exact (·.1.1.2)); (first | omega | (constructor <;> omega)))
    | (apply Q_bin; (refine Ev.of rfl ?_; first | exact fun _ => ⟨⟩ | exact id | exact And.right | exact And.left | exact (·.1.2) | exact (·.1.1) | exact (·.1.1.1) | exact (·.1.1.2)); (refine Ev.of rfl ?_; first | exact fun _ => ⟨⟩ | exact id | exact And.right | exact And.left | exact (·.1.2) | exact (·.1.1) | exact (·.1.1.1) | exact (·.1.1.2)); exact rfl)
    | (apply Q_or; (refine Ev.of rfl ?_; first | exact fun _ => ⟨⟩ | exact id | exact And.right | exact And.left | exact (·.1.2) | exact (·.1.1) | exact (·.1.1.1) | exact (·.1.1.2)); (refine Ev.of rfl ?_; first | exact fun _ => ⟨⟩ | exact id | exact And.right | exact And.left | exact (·.1.2) | exact (·.1.1) | exact (·.1.1.1) | exact (·.1.1.2)))
    | (apply Q_and; (refine Ev.of rfl ?_; first | exact fun _ => ⟨⟩ | exact id | exact And.right | exact And.left | exact (·.1.2) | exact (·.1.1) | exact (·.1.1.1) | exact (·.1.1.2)); (refine Ev.of rfl ?_; first | exact fun _ => ⟨⟩ | exact id | exact And.right | exact And.left | exact (·.1.2) | exact (·.1.1) | exact (·.1.1.1) | exact (·.1.1.2)))
    | (apply Q_lenm TYok; (refine Ev.of rfl ?_; first | exact fun _ => ⟨⟩ | exact id | exact And.right | exact And.left | exact (·.1.2) | exact (·.1.1) | exact (·.1.1.1) | exact (·.1.1.2)); exact rfl; exact rfl)
    | (apply Q_lend TYok; (refine Ev.of rfl ?_; first | exact fun _ => ⟨⟩ | exact id | exact And.right | exact And.left | exact (·.1.2) | exact (·.1.1) | exact (·.1.1.1) | exact (·.1.1.2)); exact rfl; exact rfl)
    | (apply Q_lenom TYok; (refine Ev.of rfl ?_; first | exact fun _ => ⟨⟩ | exact id | exact And.right | exact And.left | exact (·.1.2) | exact (·.1.1) | exact (·.1.1.1) | exact (·.1.1.2)); exact rfl; exact rfl; exact rfl)
    | (apply Q_len TYok; (refine Ev.of rfl ?_; first | exact fun _ => ⟨⟩ | exact id | exact And.right | exact And.left | exact (·.1.2) | exact (·.1.1) | exact (·.1.1.1) | exact (·.1.1.2)); exact rfl; exact rfl; exact rfl)
    | (apply Q_len0 TYok; (refine Ev.of rfl ?_; first | exact fun _ => ⟨⟩ | exact id | exact And.right | exact And.left | exact (·.1.2) | exact (·.1.1) | exact (·.1.1.1) | exact (·.1.1.2)); exact rfl; exact rfl)
    | (apply Q_lens TYok; (refine Ev.of rfl ?_; first | exact fun _ => ⟨⟩ | exact id | exact And.right | exact And.left | exact (·.1.2) | exact (·.1.1) | exact (·.1.1.1) | exact (·.1.1.2)); exact rfl; exact rfl)
    | (apply Q_indexd TYok; (refine Ev.of rfl ?_; first | exact fun _ => ⟨⟩ | exact id | exact And.right | exact And.left | exact (·.1.2) | exact (·.1.1) | exact (·.1.1.1) | exact (·.1.1.2)); (refine Ev.of rfl ?_; first | exact fun _ => ⟨⟩ | exact id | exact And.right | exact And.left | exact (·.1.2) | exact (·.1.1) | exact (·.1.1.1) | exact (·.1.1.2)); exact rfl; exact rfl; exact rfl; (intro hg; first | exact getRowN (by first | omega | (simp at hg; omega)) | exact getRowI (by first | omega | (simp at hg; omega))); exact rfl)
    | (apply Q_index TYok; (refine Ev.of rfl ?_; first | exact fun _ => ⟨⟩ | exact id | exact And.right | exact And.left | exact (·.1.2) | exact (·.1.1) | exact (·.1.1.1) | exact (·.1.1.2)); (refine Ev.of rfl ?_; first | exact fun _ => ⟨⟩ | exact id | exact And.right | exact And.left | exact (·.1.2) | exact (·.1.1) | exact (·.1.1.1) | exact (·.1.1.2)); exact rfl; exact rfl; exact rfl; exact rfl; exact rfl; (intro hg; first | (simp; omega) | (simp at hg; simp; omega)))
    | (apply Q_binS; (refine Ev.of rfl ?_; first | exact fun _ => ⟨⟩ | exact id | exact And.right | exact And.left | exact (·.1.2) | exact (·.1.1) | exact (·.1.1.1) | exact (·.1.1.2)); (refine Ev.of rfl ?_; first | exact fun _ => ⟨⟩ | exact id | exact And.right | exact And.left | exact (·.1.2) | exact (·.1.1) | exact (·.1.1.1) | exact (·.1.1.2)); exact rfl)); exact rfl)
    | (apply S_box; (refine Ev.of rfl ?_; first | exact fun _ => ⟨⟩ | exact id | exact And.right | exact And.left | exact (·.1.2) | exact (·.1.1) | exact (·.1.1.1) | exact (·.1.1.2)); exact rfl; exact rfl; exact rfl)
    | (apply RG.gT; exact rfl; exact rfl; (first | assumption | decide))
    | (apply RG.gF; exact rfl; exact rfl; (first | assumption | decide); exact rfl)
    | (refine W.cond (by refine Ev.of rfl ?_; first | exact fun _ => ⟨⟩ | exact id | exact And.right | exact And.left | exact (·.1.2) | exact (·.1.1) | exact (·.1.1.1) | exact (·.1.1.2)) (fun hb => ?_) (fun hb => ?_) <;> (try simp at hb) <;> (try (exfalso; omega))))
  · have e : fewF b fs us = false := by
      rcases hb with (h | h) | h <;> simp [fewF, h]
    rw [e]
    exact Fin.ret (by repeat (first | exact ResL.nil | refine ResL.cons rfl rfl (by first | exact PSub.rfl' | exact PSub.nil' | (refine PSub.of_eq ?_; simp; done) | (refine PSub.of_eq ?_; simp only [List.map_append, List.map_cons, List.map_nil]; rfl) | (refine PSub.of_eq ?_; simp; rfl)) ?_))
  apply W.loopP (σ := Nat) 35 [1] (fun k => k ≤ fs.length ∧ (fs.take k).all (fun f => decide ((f.name.length : Int) ≤ 40)) = true) (fun k => [(7, vI k)]) (fun _ => []) (fun k => fs.length - k) (0)
  case hp => repeat (first | exact Pick.nil | apply Pick.cons rfl)
  case h0 =>
    refine ⟨by simp, ?_⟩
    refine Le.mkR rfl rfl ?_ ?_ ?_ rfl
    · repeat (first | exact SubR.nil | apply SubR.p rfl (by first | rfl | (simp; done) | (congr 3; omega) | (congr 3; simp; omega)) | apply SubR.s rfl rfl rfl | apply SubR.a rfl rfl rfl | apply SubR.t rfl rfl | apply SubR.m rfl rfl rfl | apply SubR.i rfl rfl rfl rfl rfl)
    · repeat (first | exact SubR.nil | apply SubR.p rfl (by first | rfl | (simp; done) | (congr 3; omega) | (congr 3; simp; omega)) | apply SubR.s rfl rfl rfl | apply SubR.a rfl rfl rfl | apply SubR.t rfl rfl | apply SubR.m rfl rfl rfl | apply SubR.i rfl rfl rfl rfl rfl)
    · repeat (first | exact SubBR.nil | apply SubBR.cons rfl (by first | rfl | (simp only [List.map_append, List.map_replicate, List.map_cons, List.map_nil]; rfl) | (simp; done)))
  case round =>
    rintro k ⟨h1, h2⟩
    apply W.norm (by repeat (first | exact App.nil | apply App.cons))
    by_cases hk : k < fs.length
    · skip
      repeat' (first
        | apply RG.nil
        | apply Lex.nil
        | apply Then.n
        | apply Then.r
        | apply Then.x
        | apply InBlock.n
        | apply InBlock.r
        | apply InBlock.hit
        | (apply InBlock.miss; exact rfl)
        | apply W.seq
        | apply W.region
        | apply W.block
        | apply W.skip
        | apply W.ret
        | apply W.exit
        | ((first | apply U_ | (apply Ug_; exact rfl; exact rfl) | (apply Ugq_; exact rfl; exact rfl)); (first
    | (apply Q_move; (refine Ev.of rfl ?_; first | exact fun _ => ⟨⟩ | exact id | exact And.right | exact And.left | exact (·.1.2) | exact (·.1.1) | exact (·.1.1.1) | exact (·.1.1.2)))
    | (apply Q_assign; (refine Ev.of rfl ?_; first | exact fun _ => ⟨⟩ | exact id | exact And.right | exact And.left | exact (·.1.2) | exact (·.1.1) | exact (·.1.1.1) | exact (·.1.1.2)))
    | (apply Q_fieldp TYok; (refine Ev.of rfl ?_; first | exact fun _ => ⟨⟩ | exact id | exact And.right | exact And.left | exact (·.1.2) | exact (·.1.1) | exact (·.1.1.1) | exact (·.1.1.2)); exact rfl; exact rfl; exact rfl; exact rfl; exact rfl)
    | (apply Q_field TYok; (refine Ev.of rfl ?_; first | exact fun _ => ⟨⟩ | exact id | exact And.right | exact And.left | exact (·.1.2) | exact (·.1.1) | exact (·.1.1.1) | exact (·.1.1.2)); exact rfl; exact rfl; exact rfl; exact rfl; exact rfl)
    | (apply Q_loadp TYok; exact rfl; exact rfl; (refine Ev.of rfl ?_; first | exact fun _ => ⟨⟩ | exact id | exact And.right | exact And.left | exact (·.1.2) | exact (·.1.1) | exact (·.1.1.1) | exact (·.1.1.2)); exact rfl)
    | (apply Q_load TYok; exact rfl; exact rfl; (refine Ev.of rfl ?_; first | exact fun _ => ⟨⟩ | exact id | exact And.right | exact And.left | exact (·.1.2) | exact (·.1.1) | exact (·.1.1.1) | exact (·.1.1.2)); exact rfl; exact rfl; exact rfl)
    | (apply Q_loadm TYok; exact rfl; exact rfl; (refine Ev.of rfl ?_; first | exact fun _ => ⟨⟩ | exact id | exact And.right | exact And.left | exact (·.1.2) | exact (·.1.1) | exact (·.1.1.1) | exact (·.1.1.2)); exact rfl; (intro hg; first | omega | (simp; omega) | (simp at hg; simp; omega)); exact rfl; infer_instance)
    | (apply Q_loadpa TYok; exact rfl; exact rfl; (refine Ev.of rfl ?_; first | exact fun _ => ⟨⟩ | exact id | exact And.right | exact And.left | exact (·.1.2) | exact (·.1.1) | exact (·.1.1.1) | exact (·.1.1.2)); exact rfl)
    | (apply Q_loada TYok; exact rfl; exact rfl; (refine Ev.of rfl ?_; first | exact fun _ => ⟨⟩ | exact id | exact And.right | exact And.left | exact (·.1.2) | exact (·.1.1) | exact (·.1.1.1) | exact (·.1.1.2)); exact rfl; exact rfl; exact rfl)
    | (apply Q_loadma TYok; exact rfl; exact rfl; (refine Ev.of rfl ?_; first | exact fun _ => ⟨⟩ | exact id | exact And.right | exact And.left | exact (·.1.2) | exact (·.1.1) | exact (·.1.1.1) | exact (·.1.1.2)); exact rfl; (intro hg; first | omega | (simp; omega) | (simp at hg; simp; omega)); exact rfl; infer_instance)
    | (apply Q_add; (refine Ev.of rfl ?_; first | exact fun _ => ⟨⟩ | exact id | exact And.right | exact And.left | exact (·.1.2) | exact (·.1.1) | exact (·.1.1.1) | exact (·.1.1.2)); (refine Ev.of rfl ?_; first | exact fun _ => ⟨⟩ | exact id | exact And.right | exact And.left | exact (·.1.2) | exact (·.1.1) | exact (·.1.1.1) | exact (·.1.1.2)); (first | omega | (constructor <;> omega)))
    | (apply Q_bin; (refine Ev.of rfl ?_; first | exact fun _ => ⟨⟩ | exact id | exact And.right | exact And.left | exact (·.1.2) | exact (·.1.1) | exact (·.1.1.1) | exact (·.1.1.2)); (refine Ev.of rfl ?_; first | exact fun _ => ⟨⟩ | exact id | exact And.right | exact And.left | exact (·.1.2) | exact (·.1.1) | exact (·.1.1.1) | exact (·.1.1.2)); exact rfl)
    | (apply Q_or; (refine Ev.of rfl ?_; first | exact fun _ => ⟨⟩ | exact id | exact And.right | exact And.left | exact (·.1.2) | exact (·.1.1) | exact (·.1.1.1) | exact (·.1.1.2)); (refine Ev.of rfl ?_; first | exact fun _ => ⟨⟩ | exact id | exact And.right | exact And.left | exact (·.1.2) | exact (·.1.1) | exact (·.1.1.1) | exact (·.1.1.2)))
    | (apply Q_and; (refine Ev.of rfl ?_; first | exact fun _ => ⟨⟩ | exact id | exact And.right | exact And.left | exact (·.1.2) | exact (·.1.1) | exact (·.1.1.1) | exact (·.1.1.2)); (refine Ev.of rfl ?_; first | exact fun _ => ⟨⟩ | exact id | exact And.right | exact And.left | exact (·.1.2) | exact (·.1.1) | exact (·.1.1.1) | exact (·.1.1.2)))
    | (apply Q_lenm TYok; (refine Ev.of rfl ?_; first | exact fun _ => ⟨⟩ | exact id | exact And.right | exact And.left | exact (·.1.2) | exact (·.1.1) | exact (·.1.1.1) | exact (·.1.1.2)); exact rfl; exact rfl)
    | (apply Q_lend TYok; (refine Ev.of rfl ?_; first | exact fun _ => ⟨⟩ | exact id | exact And.right | exact And.left | exact (·.1.2) | exact (·.1.1) | exact (·.1.1.1) | exact (·.1.1.2)); exact rfl; exact rfl)
    | (apply Q_lenom TYok; (refine Ev.of rfl ?_; first | exact fun _ => ⟨⟩ | exact id | exact And.right | exact And.left | exact (·.1.2) | exact (·.1.1) | exact (·.1.1.1) | exact (·.1.1.2)); exact rfl; exact rfl; exact rfl)
    | (apply Q_len TYok; (refine Ev.of rfl ?_; first | exact fun _ => ⟨⟩ | exact id | exact And.right | exact And.left | exact (·.1.2) | exact (·.1.1) | exact (·.1.1.1) | exact (·.1.1.2)); exact rfl; exact rfl; exact rfl)
    | (apply Q_len0 TYok; (refine Ev.of rfl ?_; first | exact fun _ => ⟨⟩ | exact id | exact And.right | exact And.left | exact (·.1.2) | exact (·.1.1) | exact (·.1.1.1) | exact (·.1.1.2)); exact rfl; exact rfl)
    | (apply Q_lens TYok; (refine Ev.of rfl ?_; first | exact fun _ => ⟨⟩ | exact id | exact And.right | exact And.left | exact (·.1.2) | exact (·.1.1) | exact (·.1.1.1) | exact (·.1.1.2)); exact rfl; exact rfl)
    | (apply Q_indexd TYok; (refine Ev.of rfl ?_; first | exact fun _ => ⟨⟩ | exact id | exact And.right | exact And.left | exact (·.1.2) | exact (·.1.1) | exact (·.1.1.1) | exact (·.1.1.2)); (refine Ev.of rfl ?_; first | exact fun _ => ⟨⟩ | exact id | exact And.right | exact And.left | exact (·.1.2) | exact (·.1.1) | exact (·.1.1.1) | exact (·.1.1.2)); exact rfl; exact rfl; exact rfl; (intro hg; first | exact getRowN (by first | omega | (simp at hg; omega)) | exact getRowI (by first | omega | (simp at hg; omega))); exact rfl)
    | (apply Q_index TYok; (refine Ev.of rfl ?_; first | exact fun _ => ⟨⟩ | exact id | exact And.right | exact And.left | exact (·.1.2) | exact (·.1.1) | exact (·.1.1.1) | exact (·.1.1.2)); (refine Ev.of rfl ?_; first | exact fun _ => ⟨⟩ | exact id | exact And.right | exact And.left | exact (·.1.2) | exact (·.1.1) | exact (·.1.1.1) | exact (·.1.1.2)); exact rfl; exact rfl; exact rfl; exact rfl; exact rfl; (intro hg; first | (simp; omega) | (simp at hg; simp; omega)))
    | (apply Q_binS; (refine Ev.of rfl ?_; first | exact fun _ => ⟨⟩ | exact id | exact And.right | exact And.left | exact (·.1.2) | exact (·.1.1) | exact (·.1.1.1) | exact (·.1.1.2)); (refine Ev.of rfl ?_; first | exact fun _ => ⟨⟩ | exact id | exact And.right | exact And.left | exact (·.1.2) | exact (·.1.1) | exact (·.1.1.1) | exact (·.1.1.2)); exact rfl)); exact rfl)
        | (apply S_box; (refine Ev.of rfl ?_; first | exact fun _ => ⟨⟩ | exact id | exact And.right | exact And.left | exact (·.1.2) | exact (·.1.1) | exact (·.1.1.1) | exact (·.1.1.2)); exact rfl; exact rfl; exact rfl)
        | (apply RG.gT; exact rfl; exact rfl; (first | assumption | decide))
        | (apply RG.gF; exact rfl; exact rfl; (first | assumption | decide); exact rfl)
        | (refine W.cond (by refine Ev.of rfl ?_; first | exact fun _ => ⟨⟩ | exact id | exact And.right | exact And.left | exact (·.1.2) | exact (·.1.1) | exact (·.1.1.1) | exact (·.1.1.2)) (fun hb => ?_) (fun hb => ?_) <;> (try simp at hb) <;> (try (exfalso; omega))))
      · have e : fewF b fs us = false := by
          have : (fs.all fun f => decide ((f.name.length : Int) ≤ 40)) = false := by
            rw [List.all_eq_false]
            exact ⟨_, nth_mem hk, by simp; omega⟩
          rw [fewF, this]; simp
        rw [e]
        exact Fin.ret (by repeat (first | exact ResL.nil | refine ResL.cons rfl rfl (by first | exact PSub.rfl' | exact PSub.nil' | (refine PSub.of_eq ?_; simp; done) | (refine PSub.of_eq ?_; simp only [List.map_append, List.map_cons, List.map_nil]; rfl) | (refine PSub.of_eq ?_; simp; rfl)) ?_))
      · refine ⟨k + 1, ⟨by omega, ?_⟩, ?_, ?_⟩
        · rw [take_nth hk, List.all_append, h2]
          simp; omega
        · refine Le.mkR rfl rfl ?_ ?_ ?_ rfl
          · repeat (first | exact SubR.nil | apply SubR.p rfl (by first | rfl | (simp; done) | (congr 3; omega) | (congr 3; simp; omega)) | apply SubR.s rfl rfl rfl | apply SubR.a rfl rfl rfl | apply SubR.t rfl rfl | apply SubR.m rfl rfl rfl | apply SubR.i rfl rfl rfl rfl rfl)
          · repeat (first | exact SubR.nil | apply SubR.p rfl (by first | rfl | (simp; done) | (congr 3; omega) | (congr 3; simp; omega)) | apply SubR.s rfl rfl rfl | apply SubR.a rfl rfl rfl | apply SubR.t rfl rfl | apply SubR.m rfl rfl rfl | apply SubR.i rfl rfl rfl rfl rfl)
          · repeat (first | exact SubBR.nil | apply SubBR.cons rfl (by first | rfl | (simp only [List.map_append, List.map_replicate, List.map_cons, List.map_nil]; rfl) | (simp; done)))
        · (try simp only); omega
    · obtain rfl : k = fs.length := by omega
      repeat' (first
        | apply RG.nil
        | apply Lex.nil
        | apply Then.n
        | apply Then.r
        | apply Then.x
        | apply InBlock.n
        | apply InBlock.r
        | apply InBlock.hit
        | (apply InBlock.miss; exact rfl)
        | apply W.seq
        | apply W.region
        | apply W.block
        | apply W.skip
        | apply W.ret
        | apply W.exit
        | ((first | apply U_ | (apply Ug_; exact rfl; exact rfl) | (apply Ugq_; exact rfl; exact rfl)); (first
    | (apply Q_move; (refine Ev.of rfl ?_; first | exact fun _ => ⟨⟩ | exact id | exact And.right | exact And.left | exact (·.1.2) | exact (·.1.1) | exact (·.1.1.1) | exact (·.1.1.2)))
    | (apply Q_assign; (refine Ev.of rfl ?_; first | exact fun _ => ⟨⟩ | exact id | exact And.right | exact And.left | exact (·.1.2) | exact (·.1.1) | exact (·.1.1.1) | exact (·.1.1.2)))
    | (apply Q_fieldp TYok; (refine Ev.of rfl ?_; first | exact fun _ => ⟨⟩ | exact id | exact And.right | exact And.left | exact (·.1.2) | exact (·.1.1) | exact (·.1.1.1) | exact (·.1.1.2)); exact rfl; exact rfl; exact rfl; exact rfl; exact rfl)
    | (apply Q_field TYok; (refine Ev.of rfl ?_; first | exact fun _ => ⟨⟩ | exact id | exact And.right | exact And.left | exact (·.1.2) | exact (·.1.1) | exact (·.1.1.1) | exact (·.1.1.2)); exact rfl; exact rfl; exact rfl; exact rfl; exact rfl)
    | (apply Q_loadp TYok; exact rfl; exact rfl; (refine Ev.of rfl ?_; first | exact fun _ => ⟨⟩ | exact id | exact And.right | exact And.left | exact (·.1.2) | exact (·.1.1) | exact (·.1.1.1) | exact (·.1.1.2)); exact rfl)
    | (apply Q_load TYok; exact rfl; exact rfl; (refine Ev.of rfl ?_; first | exact fun _ => ⟨⟩ | exact id | exact And.right | exact And.left | exact (·.1.2) | exact (·.1.1) | exact (·.1.1.1) | exact (·.1.1.2)); exact rfl; exact rfl; exact rfl)
    | (apply Q_loadm TYok; exact rfl; exact rfl; (refine Ev.of rfl ?_; first | exact fun _ => ⟨⟩ | exact id | exact And.right | exact And.left | exact (·.1.2) | exact (·.1.1) | exact (·.1.1.1) | exact (·.1.1.2)); exact rfl; (intro hg; first | omega | (simp; omega) | (simp at hg; simp; omega)); exact rfl; infer_instance)
    | (apply Q_loadpa TYok; exact rfl; exact rfl; (refine Ev.of rfl ?_; first | exact fun _ => ⟨⟩ | exact id | exact And.right | exact And.left | exact (·.1.2) | exact (·.1.1) | exact (·.1.1.1) | exact (·.1.1.2)); exact rfl)
    | (apply Q_loada TYok; exact rfl; exact rfl; (refine Ev.of rfl ?_; first | exact fun _ => ⟨⟩ | exact id | exact And.right | exact And.left | exact (·.1.2) | exact (·.1.1) | exact (·.1.1.1) | exact (·.1.1.2)); exact rfl; exact rfl; exact rfl)
    | (apply Q_loadma TYok; exact rfl; exact rfl; (refine Ev.of rfl ?_; first | exact fun _ => ⟨⟩ | exact id | exact And.right | exact And.left | exact (·.1.2) | exact (·.1.1) | exact (·.1.1.1) | exact (·.1.1.2)); exact rfl; (intro hg; first | omega | (simp; omega) | (simp at hg; simp; omega)); exact rfl; infer_instance)
    | (apply Q_add; (refine Ev.of rfl ?_; first | exact fun _ => ⟨⟩ | exact id | exact And.right | exact And.left | exact (·.1.2) | exact (·.1.1) | exact (·.1.1.1) | exact (·.1.1.2)); (refine Ev.of rfl ?_; first | exact fun _ => ⟨⟩ | exact id | exact And.right | exact And.left | exact (·.1.2) | exact (·.1.1) | exact (·.1.1.1) | exact (·.1.1.2)); (first | omega | (constructor <;> omega)))
    | (apply Q_bin; (refine Ev.of rfl ?_; first | exact fun _ => ⟨⟩ | exact id | exact And.right | exact And.left | exact (·.1.2) | exact (·.1.1) | exact (·.1.1.1) | exact (·.1.1.2)); (refine Ev.of rfl ?_; first | exact fun _ => ⟨⟩ | exact id | exact And.right | exact And.left | exact (·.1.2) | exact (·.1.1) | exact (·.1.1.1) | exact (·.1.1.2)); exact rfl)
    | (apply Q_or; (refine Ev.of rfl ?_; first | exact fun _ => ⟨⟩ | exact id | exact And.right | exact And.left | exact (·.1.2) | exact (·.1.1) | exact (·.1.1.1) | exact (·.1.1.2)); (refine Ev.of rfl ?_; first | exact fun _ => ⟨⟩ | exact id | exact And.right | exact And.left | exact (·.1.2) | exact (·.1.1) | exact (·.1.1.1) | exact (·.1.1.2)))
    | (apply Q_and; (refine Ev.of rfl ?_; first | exact fun _ => ⟨⟩ | exact id | exact And.right | exact And.left | exact (·.1.2) | exact (·.1.1) | exact (·.1.1.1) | exact (·.1.1.2)); (refine Ev.of rfl ?_; first | exact fun _ => ⟨⟩ | exact id | exact And.right | exact And.left | exact (·.1.2) | exact (·.1.1) | exact (·.1.1.1) | exact (·.1.1.2)))
    | (apply Q_lenm TYok; (refine Ev.of rfl ?_; first | exact fun _ => ⟨⟩ | exact id | exact And.right | exact And.left | exact (·.1.2) | exact (·.1.1) | exact (·.1.1.1) | exact (·.1.1.2)); exact rfl; exact rfl)
    | (apply Q_lend TYok; (refine Ev.of rfl ?_; first | exact fun _ => ⟨⟩ | exact id | exact And.right | exact And.left | exact (·.1.2) | exact (·.1.1) | exact (·.1.1.1) | exact (·.1.1.2)); exact rfl; exact rfl)
    | (apply Q_lenom TYok; (refine Ev.of rfl ?_; first | exact fun _ => ⟨⟩ | exact id | exact And.right | exact And.left | exact (·.1.2) | exact (·.1.1) | exact (·.1.1.1) | exact (·.1.1.2)); exact rfl; exact rfl; exact rfl)
    | (apply Q_len TYok; (refine Ev.of rfl ?_; first | exact fun _ => ⟨⟩ | exact id | exact And.right | exact And.left | exact (·.1.2) | exact (·.1.1) | exact (·.1.1.1) | exact (·.1.1.2)); exact rfl; exact rfl; exact rfl)
    | (apply Q_len0 TYok; (refine Ev.of rfl ?_; first | exact fun _ => ⟨⟩ | exact id | exact And.right | exact And.left | exact (·.1.2) | exact (·.1.1) | exact (·.1.1.1) | exact (·.1.1.2)); exact rfl; exact rfl)
    | (apply Q_lens TYok; (refine Ev.of rfl ?_; first | exact fun _ => ⟨⟩ | exact id | exact And.right | exact And.left | exact (·.1.2) | exact (·.1.1) | exact (·.1.1.1) | exact (·.1.1.2)); exact rfl; exact rfl)
    | (apply Q_indexd TYok; (refine Ev.of rfl ?_; first | exact fun _ => ⟨⟩ | exact id | exact And.right | exact And.left | exact (·.1.2) | exact (·.1.1) | exact (·.1.1.1) | exact (·.1.1.2)); (refine Ev.of rfl ?_; first | exact fun _ => ⟨⟩ | exact id | exact And.right | exact And.left | exact (·.1.2) | exact (·.1.1) | exact (·.1.1.1) | exact (·.1.1.2)); exact rfl; exact rfl; exact rfl; (intro hg; first | exact getRowN (by first | omega | (simp at hg; omega)) | exact getRowI (by first | omega | (simp at hg; omega))); exact rfl)
    | (apply Q_index TYok; (refine Ev.of rfl ?_; first | exact fun _ => ⟨⟩ | exact id | exact And.right | exact And.left | exact (·.1.2) | exact (·.1.1) | exact (·.1.1.1) | exact (·.1.1.2)); (refine Ev.of rfl ?_; first | exact fun _ => ⟨⟩ | exact id | exact And.right | exact And.left | exact (·.1.2) | exact (·.1.1) | exact (·.1.1.1) | exact (·.1.1.2)); exact rfl; exact rfl; exact rfl; exact rfl; exact rfl; (intro hg; first | (simp; omega) | (simp at hg; simp; omega)))
    | (apply Q_binS; (refine Ev.of rfl ?_; first | exact fun _ => ⟨⟩ | exact id | exact And.right | exact And.left | exact (·.1.2) | exact (·.1.1) | exact (·.1.1.1) | exact (·.1.1.2)); (refine Ev.of rfl ?_; first | exact fun _ => ⟨⟩ | exact id | exact And.right | exact And.left | exact (·.1.2) | exact (·.1.1) | exact (·.1.1.1) | exact (·.1.1.2)); exact rfl)); exact rfl)
        | (apply S_box; (refine Ev.of rfl ?_; first | exact fun _ => ⟨⟩ | exact id | exact And.right | exact And.left | exact (·.1.2) | exact (·.1.1) | exact (·.1.1.1) | exact (·.1.1.2)); exact rfl; exact rfl; exact rfl)
        | (apply RG.gT; exact rfl; exact rfl; (first | assumption | decide))
        | (apply RG.gF; exact rfl; exact rfl; (first | assumption | decide); exact rfl)
        | (refine W.cond (by refine Ev.of rfl ?_; first | exact fun _ => ⟨⟩ | exact id | exact And.right | exact And.left | exact (·.1.2) | exact (·.1.1) | exact (·.1.1.1) | exact (·.1.1.2)) (fun hb => ?_) (fun hb => ?_) <;> (try simp at hb) <;> (try (exfalso; omega))))
      rw [List.take_length] at h2
      have e : fewF b fs us = true := by
        rw [fewF, h2]; simp; omega
      rw [e]
      exact Fin.ret (by repeat (first | exact ResL.nil | refine ResL.cons rfl rfl (by first | exact PSub.rfl' | exact PSub.nil' | (refine PSub.of_eq ?_; simp; done) | (refine PSub.of_eq ?_; simp only [List.map_append, List.map_cons, List.map_nil]; rfl) | (refine PSub.of_eq ?_; simp; rfl)) ?_))
end Go.Proofs.Ytceggnkijedonaa
