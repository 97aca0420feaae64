/-
  Part 10 of what the proof rests on.
-/
import Derived.Test.YtndfnihglpconaaTS09
import Derived.Test.YtndfnihglpconaaTS08
import Derived.Test.YtndfnihglpconaaTS03
section
set_option linter.unusedVariables false
set_option linter.unusedSimpArgs false
set_option maxHeartbeats 8000000
namespace Go.Proofs.Ytndfnihglpconaa
open Lf Go
attribute [local irreducible] PureOp EffOp Ev RG W Then InBlock Lf.Fin nth App InitE Pick SubE EvL EvD EvP EvR ResL Lf.Lex SubR SubBR FinO FinM ResM ResD FinS val pw digs trimL
section
open RankLaw
theorem mul_lt {x y : Int} {m n k : Nat} (hk : m + n = k) (hx : -pw m < x ∧ x < pw m) (hy : -pw n < y ∧ y < pw n) : -pw k < x * y ∧ x * y < pw k := by
  subst hk
  have h1 := pw_pos m
  have h2 := pw_pos n
  have h : (x * y).natAbs < (pw (m + n)).natAbs := by
    rw [pw_add, Int.natAbs_mul, Int.natAbs_mul]
    exact Nat.mul_lt_mul'' (by omega) (by omega)
  have := pw_pos (m + n)
  omega
def bd (r : Rat) (n : Nat) : Prop := (-pw n < r.num ∧ r.num < pw n) ∧ (-pw n < (r.den : Int) ∧ (r.den : Int) < pw n)
theorem bd_ok {r : Rat} {n : Nat} (h : bd r n) (hn : n ≤ 60) : okF r := by
  have := pw_mono hn
  obtain ⟨h1, h2⟩ := h
  exact ⟨okZ.of (by omega), okZ.of (by omega)⟩
theorem bd_mono {r : Rat} {m n : Nat} (h : bd r m) (hn : m ≤ n) : bd r n := by
  have := pw_mono hn
  obtain ⟨h1, h2⟩ := h
  exact ⟨by omega, by omega⟩
theorem bd_div {x y : Int} {n : Nat} (h0 : y ≠ 0) (hx : -pw n < x ∧ x < pw n) (hy : -pw n < y ∧ y < pw n) : bd (Rat.divInt x y) n := by
  obtain ⟨h1, h2⟩ := divInt_le (x := x) h0
  have a := sgn_cases x
  have b := sgn_cases y
  have c := sgn_cases (Rat.divInt x y).num
  have d := sgn_cases ((Rat.divInt x y).den : Int)
  exact ⟨by omega, by omega⟩
theorem add_bd {a b : Rat} {m n k : Nat} (hk : m + n = k) (ha : bd a m) (hB : bd b n) (h60 : k + 1 ≤ 60) : bd (a + b) (k + 1) ∧ addOk a b := by
  have h1 := mul_lt hk ha.1 hB.2
  have h2 := mul_lt (m := n) (n := m) (k := k) (by omega) hB.1 ha.2
  have h3 := mul_lt hk ha.2 hB.2
  have e : pw (k + 1) = 1048576 * pw k := by rw [pw_succ]
  have hm := pw_mono h60
  have hp := pw_pos k
  refine ⟨?_, ⟨⟨okZ.of (by omega), okZ.of (by omega), okZ.of (by omega)⟩, okZ.of (by omega)⟩⟩
  rw [rat_add]
  exact bd_div (mul_ne (den_ne a) (den_ne b)) (by omega) (by omega)
theorem mul_bd {a b : Rat} {m n k : Nat} (hk : m + n = k) (ha : bd a m) (hB : bd b n) (h60 : k ≤ 60) : bd (a * b) k ∧ mulOk a b := by
  have h1 := mul_lt hk ha.1 hB.1
  have h3 := mul_lt hk ha.2 hB.2
  have hm := pw_mono h60
  refine ⟨?_, ⟨okZ.of (by omega), okZ.of (by omega)⟩⟩
  rw [rat_mul]
  exact bd_div (mul_ne (den_ne a) (den_ne b)) h1 h3
theorem neg_bd {b : Rat} {n : Nat} (h : bd b n) : bd (-b) n := by
  obtain ⟨h1, h2⟩ := h
  refine ⟨?_, ?_⟩
  · rw [Rat.neg_num]; omega
  · rw [Rat.neg_den]; exact h2
theorem div_bd {a b : Rat} {m n k : Nat} (hk : m + n = k) (ha : bd a m) (hB : bd b n) (h0 : b.num ≠ 0) (h60 : k ≤ 60) : bd (a / b) k ∧ divOk a b := by
  have h1 := mul_lt hk ha.1 hB.2
  have h3 := mul_lt hk ha.2 hB.1
  have hm := pw_mono h60
  refine ⟨?_, okZ.of (by omega), okZ.of (by omega)⟩
  rw [rat_div a b h0]
  exact bd_div (mul_ne (den_ne a) h0) h1 h3
theorem bd_of {r : Rat} {n : Nat} (h1 : (digs (mag r.num)).length ≤ n) (h2 : (digs (mag r.den)).length ≤ n) : bd r n := ⟨lt40 h1, lt40 h2⟩
theorem pw4 : pw 4 = 1208925819614629174706176 := by decide +kernel
theorem int_bd {n : Int} (h : -1208925819614629174706176 < n ∧ n < 1208925819614629174706176) : bd (n : Rat) 4 := by
  have e := pw4
  have h1 : (n : Rat).num = n := rfl
  have h2 : ((n : Rat).den : Int) = 1 := rfl
  unfold bd
  rw [h1, h2]
  omega
theorem sub_bd {a b : Rat} {m n k : Nat} (hk : m + n = k) (ha : bd a m) (hB : bd b n) (h60 : k + 1 ≤ 60) : bd (a - b) (k + 1) ∧ addOk a (-b) := by
  rw [Rat.sub_eq_add_neg]
  exact add_bd hk ha (neg_bd hB) h60
theorem cmpR_cases (a b : Rat) : (cmpR a b = -1 ∧ a < b) ∨ (cmpR a b = 0 ∧ a = b) ∨ (cmpR a b = 1 ∧ b < a) := by
  unfold cmpR
  rcases cmp_cases (a.num * b.den) (b.num * a.den) with h | h | h
  · exact .inl ⟨h.1, (Rat.lt_iff a b).2 h.2⟩
  · exact .inr (.inl ⟨h.1, Rat.le_antisymm ((Rat.le_iff a b).2 (by omega)) ((Rat.le_iff b a).2 (by omega))⟩)
  · exact .inr (.inr ⟨h.1, (Rat.lt_iff b a).2 h.2⟩)
theorem sgnR_cases (r : Rat) : (sgn r.num = -1 ∧ r < 0) ∨ (sgn r.num = 0 ∧ r = 0) ∨ (sgn r.num = 1 ∧ 0 < r) := by
  have h1 := cmpR_cases r 0
  have c := sgn_cases r.num
  have e : cmpR r 0 = sgn r.num := by
    unfold cmpR
    have k := cmp_cases (r.num * ((0 : Rat).den : Int)) ((0 : Rat).num * r.den)
    rw [show ((0 : Rat).den : Int) = 1 from rfl, show (0 : Rat).num = 0 from rfl, Int.mul_one, Int.zero_mul] at k ⊢
    omega
  rw [e] at h1
  exact h1
theorem rightC_yes {l : List Cl} (h : rightC l = true) : (∀ c ∈ l, okC c) ∧ amtOk l ∧ l.length ≤ 2000 := by
  unfold rightC at h
  rw [Bool.and_eq_true, List.all_eq_true, decide_eq_true_iff] at h
  refine ⟨fun c hc => ?_, fun c hc => ?_, by omega⟩
  · have := (okB_iff _ _).1 (h.1 c hc)
    exact ⟨this.2.2.1.1, this.2.2.1.2, this.2.2.2.1.1⟩
  · have := (okB_iff _ _).1 (h.1 c hc)
    exact this.2.2.2.1
theorem sums_rng {l : List Cl} (h : amtOk l) (hl : l.length ≤ 2000) (k : Int) : (0 ≤ less l k ∧ less l k ≤ 2000000000000000000) ∧ (0 ≤ same l k ∧ same l k ≤ 2000000000000000000) ∧ (0 ≤ total l ∧ total l ≤ 2000000000000000000) := by
  have := take_sums h hl l.length k
  rwa [List.take_length] at this
theorem rest_bd {r : Rat} (hr : bd r 20) {l : List Cl} (h : amtOk l) (hl : l.length ≤ 2000) (k : Int) : bd (rest r l k) 25 := by
  have := sums_rng h hl k
  unfold rest
  split
  · exact bd_mono (int_bd (n := 0) (by omega)) (by omega)
  · exact (sub_bd (k := 24) (by omega) hr (int_bd (by omega)) (by omega)).1
def payC (r : Rat) (l : List Cl) (c : Cl) : Rat := pay r (less l c.rank) (same l c.rank) c.amt
def encO : Option Rat → List Cell
  | none => [.int .i64 0, .slnil, .int .i64 0, .slnil]
  | some r => encQ r
theorem encO_len (z : Option Rat) : (encO z).length = 4 := by cases z <;> rfl
def Paid (r : Rat) (l : List Cl) (k : Int) (j : Nat) (L : List (Option Rat)) : Prop :=
  L.length = l.length ∧ ∀ i, i < l.length → nth L i = if (nth l i).rank < k ∨ ((nth l i).rank = k ∧ i < j) then some (payC r l (nth l i)) else none
theorem Paid.zero {l : List Cl} (r : Rat) (h : ∀ c ∈ l, okC c) : Paid r l 0 0 (List.replicate l.length none) := by
  refine ⟨by simp, fun i hi => ?_⟩
  have := (h _ (nth_mem hi)).1
  rw [if_neg (by omega), nth_eq (by simpa using hi), List.getElem_replicate]
theorem Paid.next {r : Rat} {l : List Cl} {k : Int} {L : List (Option Rat)} (h : Paid r l k l.length L) : Paid r l (k + 1) 0 L := by
  refine ⟨h.1, fun i hi => ?_⟩
  rw [h.2 i hi]
  by_cases h1 : (nth l i).rank < k + 1
  · rw [if_pos (by omega), if_pos (.inl h1)]
  · rw [if_neg (by omega), if_neg (by omega)]
theorem Paid.skip {r : Rat} {l : List Cl} {k : Int} {j : Nat} {L : List (Option Rat)} (h : Paid r l k j L) (hj : j < l.length) (hne : (nth l j).rank ≠ k) : Paid r l k (j + 1) L := by
  refine ⟨h.1, fun i hi => ?_⟩
  rw [h.2 i hi]
  by_cases e : i = j
  · subst e
    by_cases h1 : (nth l i).rank < k
    · rw [if_pos (.inl h1), if_pos (.inl h1)]
    · rw [if_neg (by omega), if_neg (by omega)]
  · by_cases h1 : (nth l i).rank < k ∨ ((nth l i).rank = k ∧ i < j)
    · rw [if_pos h1, if_pos (by omega)]
    · rw [if_neg h1, if_neg (by omega)]
theorem nth_set {α : Type} [Inhabited α] {l : List α} {i j : Nat} {x : α} (hi : i < l.length) : nth (l.set j x) i = if i = j then x else nth l i := by
  rw [nth_eq (by simpa using hi), List.getElem_set]
  by_cases e : i = j
  · rw [if_pos e, if_pos e.symm]
  · rw [if_neg e, if_neg (Ne.symm e), nth_eq hi]
theorem Paid.set {r : Rat} {l : List Cl} {k : Int} {j : Nat} {L : List (Option Rat)} (h : Paid r l k j L) (hj : j < l.length) (he : (nth l j).rank = k) {v : Rat} (hv : v = payC r l (nth l j)) : Paid r l k (j + 1) (L.set j (some v)) := by
  refine ⟨by rw [List.length_set]; exact h.1, fun i hi => ?_⟩
  rw [nth_set (by rw [h.1]; exact hi)]
  by_cases e : i = j
  · subst e
    rw [if_pos rfl, if_pos (.inr ⟨he, by omega⟩), hv]
  · rw [if_neg e, h.2 i hi]
    by_cases h1 : (nth l i).rank < k ∨ ((nth l i).rank = k ∧ i < j)
    · rw [if_pos h1, if_pos (by omega)]
    · rw [if_neg h1, if_neg (by omega)]
theorem Paid.set2 {r : Rat} {l : List Cl} {k : Int} {j : Nat} {L : List (Option Rat)} (h : Paid r l k j L) (hj : j < l.length) (he : (nth l j).rank = k) {u : Option Rat} {v : Rat} (hv : v = payC r l (nth l j)) : Paid r l k (j + 1) ((L.set j u).set j (some v)) := by
  rw [List.set_set]
  exact h.set hj he hv
theorem list_eq {α : Type} [Inhabited α] {a b : List α} (hl : a.length = b.length) (h : ∀ i, i < a.length → nth a i = nth b i) : a = b := by
  refine List.ext_getElem hl fun i h1 h2 => ?_
  rw [← nth_eq h1, ← nth_eq h2]
  exact h i h1
theorem payL_eq (r : Rat) (l : List Cl) : payL r l = l.map (payC r l) := rfl
theorem Paid.done {r : Rat} {l : List Cl} {L : List (Option Rat)} (hok : ∀ c ∈ l, okC c) (h : Paid r l 10 0 L) : L = (payL r l).map some := by
  refine list_eq (by rw [h.1]; simp [payL]) fun i hi => ?_
  have hi' : i < l.length := by rw [← h.1]; exact hi
  rw [h.2 i hi']
  have := (hok _ (nth_mem hi')).2.1
  rw [if_pos (by omega), nth_eq hi', nth_eq (show i < ((payL r l).map some).length by simpa [payL] using hi')]
  simp only [payL_eq, List.getElem_map]
theorem encO_some (L : List Rat) : (L.map some).map encO = L.map encQ := by rw [List.map_map]; rfl
end
end Go.Proofs.Ytndfnihglpconaa
end
section
set_option linter.unusedVariables false
namespace Lf
open Go
section
variable {P : Program} {G : Ghost} {n : Nat}
theorem StoreV.mkm {α : Type} [I : Inhabited α] {T : Nat → Option TI} (hT : TOK P T) {E : Env} {B B0 : Blk} {t d i : Nat} {x y : Operand} {ti : TI} {l : List α} {f : α → List Cell} (v : α) {q : PV} {ty : TypeId} {pos : String} {after : Array Edge} {gd : Option (Nat × Bool)} (hx : Ev (St.mk n E []) True x (.addr d i 0)) (hy : Ev (St.mk n E []) True y (.pv q)) (ht : T t = some ti) (hr : B0.rows = l.map f)
    (hi : i < l.length) (hq : q.cells = f v) (hf : ∀ z, (f z).length = ti.sz) (hB : ({ B0 with rows := (l.set i v).map f } : Blk) = B) : StoreV P G n E ⟨none, .store t x y, ty, pos, after, gd⟩ d B B0 := by
  have e : splice (f l[i]) 0 q.cells = f v := by
    rw [hq]; unfold splice; rw [hf, List.drop_eq_nil_of_le (by rw [hf]; omega)]; simp
  refine StoreV.mk hT hx hy ht (r := f l[i]) (by rw [hr]; simp [List.getElem?_eq_getElem hi]) (by rw [hq, hf]) (Nat.ble_eq_true_of_le (by rw [hf]; omega)) ?_
  rw [← hB, hr, e, ← List.map_set]
end
end Lf
end
section
set_option linter.unusedVariables false
set_option linter.unusedSimpArgs false
namespace Lf
open Go Go.RowKit
section
variable {P : Program} {G : Ghost} {A : St} {Φ : Frz} {β : Own} {a : Act} {w w' : World}
structure TCalls (P : Program) (f : FuncId) (args : List PV) (E sz : Nat) (rows : List (List Cell)) (k : IntKind) (m : Int) : Prop where
  fn : FnOK P f
  calls : ∀ (Φ : Frz) (w : World) (vs : Array Value), Fits Φ w → ArgsRel Φ vs args → Calls P f vs w (fun e w' => ∃ v Φ', e = .returned (.tuple #[v, .int k m]) ∧ ((v = .slice none 0 0 ∧ rows = []) ∨ ∃ b cap, v = .slice (some ⟨b, 0, none⟩) rows.length cap ∧ w.heap.size ≤ b ∧ BlkRel Φ' w' b cap ⟨E, sz, rows⟩ ∧ Φ' b = none) ∧
    Φ.le Φ' ∧ (∀ b, b < w.heap.size → Φ' b = Φ b) ∧ Fits Φ' w' ∧ Below w.heap.size w w')
/-- the end of such a function -/
def FinT (t t2 E sz : Nat) (rows : List (List Cell)) (k : IntKind) (m : Int) (e : Exit) (A : St) : Prop := (e = .normal ∨ e = .ret) ∧ (∃ n, lk A.env t = some (True, .slc n) ∧ lk A.blks n = some ⟨E, sz, rows⟩) ∧ lk A.env t2 = some (True, .pv (.one (.int k m)))
theorem FinT.ret {t t2 E sz n : Nat} {rows rows' : List (List Cell)} {k : IntKind} {m : Int} (h : lk A.env t = some (True, .slc n)) (hl : lk A.blks n = some ⟨E, sz, rows'⟩) (hr : rows' = rows) (h2 : lk A.env t2 = some (True, .pv (.one (.int k m)))) : FinT t t2 E sz rows k m .ret A := ⟨.inr rfl, ⟨n, h, hr ▸ hl⟩, h2⟩
theorem TCalls.of_W {f : FuncId} {fn : Func} {c : Code} {args : List PV} {E sz : Nat} {rows : List (List Cell)} {k : IntKind} {m : Int} (t t2 n : Nat) (hf : P.funcs[f]? = some fn) (hn : (fn.name == "runtime.NumGoroutine") = false) (hb : fn.body = some c)
    (hr : fn.results = #[.tmp t, .tmp t2]) (hnt : fn.ntmps = n) (hE : Nat.ble mapTag E = false) (h : ∀ G, W P G c (FinT t t2 E sz rows k m) (St.init n args)) : TCalls P f args E sz rows k m where
  fn := ⟨fn, hf, hn, by rw [hb]; rfl⟩
  calls := fun Φ w vs hfit harg => by
    subst hnt
    refine calls_of_wp hf hb (wp_mono (h _ Φ (fun _ => none) _ w (sat_init (f := f) rfl hfit harg)) fun e a' w' ⟨A', Φ', β', ⟨he, ⟨x, h1, h2⟩, h5⟩, hs, hle⟩ => ?_)
    have hv : a'.defers = [] ∧ ∃ v, (results fn a'.tmps).run P w' = .ok v w' ∧ (∃ v1 Φ'', Ending.returned v = .returned (.tuple #[v1, .int k m]) ∧ ((v1 = .slice none 0 0 ∧ rows = []) ∨ ∃ b cap, v1 = .slice (some ⟨b, 0, none⟩) rows.length cap ∧ w.heap.size ≤ b ∧ BlkRel Φ'' w' b cap ⟨E, sz, rows⟩ ∧ Φ'' b = none) ∧
        Φ.le Φ'' ∧ (∀ b, b < w.heap.size → Φ'' b = Φ b) ∧ Fits Φ'' w' ∧ Below w.heap.size w w') := by
      have h3 : Rel Φ' (a'.tmps.getD t2 undef) (.int k m) := (hs.env t2 True _ h5).1 trivial
      have h4 : a'.tmps.getD t2 undef = .int k m := by
        cases hv : a'.tmps.getD t2 undef <;> rw [hv] at h3 <;> cases h3
        rfl
      refine ⟨hs.dfr, _, run_results (ts := [t, t2]) (by rw [hr]; rfl) _ _, a'.tmps.getD t undef, Φ', ?_, ?_, hle, fun b hb => hs.old b hb, hs.fits, ⟨hs.kept.os, hs.kept.tape, hs.kept.output, hs.kept.size, hs.kept.block⟩⟩
      · rw [show resV a'.tmps [t, t2] = .tuple #[a'.tmps.getD t undef, a'.tmps.getD t2 undef] from rfl, h4]
      · obtain ⟨B, k1, k2, k3⟩ := (hs.env t True _ h1).1 trivial
        rw [h2] at k1
        obtain rfl := Option.some.inj k1
        rcases k3 with ⟨k3, k4⟩ | ⟨b, cap, k3, k4⟩
        · exact .inl ⟨k4, hs.vir x _ h2 k3⟩
        · obtain ⟨g1, g2, g3⟩ := hs.blk x _ b cap h2 k3
          exact .inr ⟨b, cap, k4, Nat.le_of_not_lt g2, g1, g3⟩
    rcases he with rfl | rfl
    · exact hv
    · exact hv
/-- what such a callee made, as data -/
theorem TCalls.data {f : FuncId} {args : List PV} {E sz : Nat} {rows : List (List Cell)} {k : IntKind} {m : Int} (h : TCalls P f args E sz rows k m) (hE : Nat.ble mapTag E = false) : ACalls P f args (.tup [.one (.sl rows), .one (.int k m)]) where
  fn := h.fn
  calls := fun Φ w vs hfit harg => by
    refine Calls.mono (h.calls Φ w vs hfit harg) ?_
    rintro e w' ⟨v, Φ', rfl, hv, hle, heq, hf, hb⟩
    have mk : ∀ {Φ1 : Frz} {v : Value}, Rel Φ1 v (.sl rows) → AVRel Φ1 (fun _ => none) [] (.tuple #[v, .int k m]) (.tup [.one (.sl rows), .one (.int k m)]) := fun {Φ1 v} hr => by
      refine ⟨_, rfl, rfl, fun j p hj => ?_⟩
      cases j with
      | zero => simp at hj; subst hj; exact ⟨v, rfl, hr⟩
      | succ j =>
        cases j with
        | zero => simp at hj; subst hj; exact ⟨.int k m, rfl, Rel.int _ _⟩
        | succ j => simp at hj
    rcases hv with ⟨rfl, rfl⟩ | ⟨b, cap, rfl, hbs, hbl, hΦ⟩
    · exact ⟨_, Φ', rfl, mk Rel.sl0, hle, heq, hf, hb⟩
    · obtain ⟨cur, g1, g2, g3, g4, g5, g6⟩ := hbl.cells hE
      have hle2 : Φ'.le (fun c => if c = b then some cur else Φ' c) := fun c x hc => by
        by_cases e : c = b
        · subst e; rw [hΦ] at hc; cases hc
        · simp [e, hc]
      refine ⟨_, fun c => if c = b then some cur else Φ' c, rfl, mk ?_, Frz.le_trans hle hle2, fun c hc => ?_, fun c x hc => ?_, hb⟩
      · refine .sl b 0 rows.length cap sz rows (fun i j => (cur[i * sz + j]?).getD undef) rfl g2 g5 (fun i j r c hi hj => ?_) (fun i j r c hi hj => ?_)
        · obtain ⟨v, q1, q2⟩ := g6 i j r c hi hj
          simp [q1]
        · obtain ⟨v, q1, q2⟩ := g6 i j r c hi hj
          rw [q1]; exact q2.mono hle2
      · show (if c = b then some cur else Φ' c) = Φ c
        rw [if_neg (by omega)]; exact heq c hc
      · simp only at hc
        split at hc
        · rename_i e; subst e; cases hc; exact ⟨_, _, g1⟩
        · exact hf c x hc
end
section
variable {P : Program} {G : Ghost} {ops : Array Oper} {rest : List Oper} {Q : St → Prop} {n0 : Nat} {env : List (Nat × (Prop × AV))} {bl : List (Nat × Blk)} {p : Prop} {dst : Option Nat} {ty : TypeId} {pos : String} {after : Array Edge} {gd : Option (Nat × Bool)}
end
end Lf
end
