/-
  What came in, as the walks take it
-/
import Derived.Test.YtionjeodcmnneaaRSame
import Derived.Test.YtionjeodcmnneaaLfRec
set_option linter.unusedVariables false
set_option linter.unusedSimpArgs false
set_option maxHeartbeats 8000000
namespace Go.Proofs.Ytionjeodcmnneaa
open Lf Go
attribute [local irreducible] PureOp EffOp Ev RG W Then InBlock Lf.Fin nth App InitE Pick SubE SubF SubG EvL EvD EvP EvR ResL Lf.Lex SubR SubBR RA RAll EvC FinO FinM ResM FinB ResD

theorem exp_of : ∀ (n : Nat) {cs : List Cell}, TyL TY n 35 cs → ∃ e : Exp, cs = encX e ∧ OkE e
  | 0, cs, h => h.elim
  | 1, cs, h => by
    obtain ⟨a1, b1, rfl, t1, -⟩ : ∃ a1 b1, cs = a1 ++ b1 ∧ TyL TY 0 3 a1 ∧ True := by
      obtain ⟨a1, b1, h1, h2, _⟩ := h; exact ⟨a1, b1, h1, h2, trivial⟩
    exact t1.elim
  | n + 2, cs, h => by
    obtain ⟨a1, b1, rfl, t1, a2, b2, rfl, t2, a3, b3, rfl, t3, a4, b4, rfl, t4, a5, b5, rfl, t5, rfl⟩ : ∃ a1 b1, cs = a1 ++ b1 ∧ TyL TY (n + 1) 3 a1 ∧ ∃ a2 b2, b1 = a2 ++ b2 ∧ TyL TY (n + 1) 3 a2 ∧ ∃ a3 b3, b2 = a3 ++ b3 ∧ TyL TY (n + 1) 3 a3 ∧ ∃ a4 b4, b3 = a4 ++ b4 ∧ TyL TY (n + 1) 9 a4 ∧ ∃ a5 b5, b4 = a5 ++ b5 ∧ TyL TY (n + 1) 33 a5 ∧ b5 = [] := h
    obtain ⟨i1, rfl, _⟩ : ∃ i, a1 = [.int .i64 i] ∧ (Lit.int .i64 i).wf = true := t1
    obtain ⟨i2, rfl, _⟩ : ∃ i, a2 = [.int .i64 i] ∧ (Lit.int .i64 i).wf = true := t2
    obtain ⟨i3, rfl, _⟩ : ∃ i, a3 = [.int .i64 i] ∧ (Lit.int .i64 i).wf = true := t3
    obtain ⟨s, rfl, hs⟩ : ∃ s, a4 = [.str s] ∧ s.length ≤ maxLen := t4
    obtain ⟨rows, rfl, hl, hr⟩ : ∃ rows, a5 = [Cell.sl rows] ∧ rows.length ≤ maxLen ∧ ∀ r ∈ rows, TyL TY n 35 r := t5
    obtain ⟨l, rfl, ho⟩ := rows_map (f := encX) (p := OkE) fun r hr' => exp_of n (hr r hr')
    refine ⟨.mk i1 i2 i3 s l, ?_, .mk (by unfold maxLen at hs; omega) (by simp only [List.length_map] at hl; unfold maxLen at hl; omega) ho⟩
    have := aE_mk i1 i2 i3 s l
    injection this with this
    exact this.symm
theorem int1_of {n : Nat} {cs : List Cell} (h : TyL TY (n + 1) 3 cs) : ∃ i : Int, cs = encI i ∧ True := by
  obtain ⟨i, rfl, _⟩ : ∃ i, cs = [.int .i64 i] ∧ (Lit.int .i64 i).wf = true := h
  exact ⟨i, rfl, trivial⟩
theorem let_of : ∀ (n : Nat) {cs : List Cell}, TyL TY n 61 cs → ∃ x : Let, cs = encL x ∧ x.name.length ≤ 9223372036854775807 ∧ OkE x.body
  | 0, cs, h => h.elim
  | 1, cs, h => by
    obtain ⟨a1, b1, rfl, t1, -⟩ : ∃ a1 b1, cs = a1 ++ b1 ∧ TyL TY 0 9 a1 ∧ True := by
      obtain ⟨a1, b1, h1, h2, _⟩ := h; exact ⟨a1, b1, h1, h2, trivial⟩
    exact t1.elim
  | n + 2, cs, h => by
    obtain ⟨a1, b1, rfl, t1, a2, b2, rfl, t2, rfl⟩ : ∃ a1 b1, cs = a1 ++ b1 ∧ TyL TY (n + 1) 9 a1 ∧ ∃ a2 b2, b1 = a2 ++ b2 ∧ TyL TY (n + 1) 35 a2 ∧ b2 = [] := h
    obtain ⟨s, rfl, hs⟩ : ∃ s, a1 = [.str s] ∧ s.length ≤ maxLen := t1
    obtain ⟨e, rfl, he⟩ := exp_of _ t2
    exact ⟨⟨s, e⟩, rfl, by unfold maxLen at hs; show s.length ≤ _; omega, he⟩
theorem cov_of : ∀ (n : Nat) {cs : List Cell}, TyL TY n 72 cs → ∃ x : Cov, cs = encV x ∧ x.name.length ≤ 9223372036854775807 ∧ OkE x.must
  | 0, cs, h => h.elim
  | 1, cs, h => by
    obtain ⟨a1, b1, rfl, t1, -⟩ : ∃ a1 b1, cs = a1 ++ b1 ∧ TyL TY 0 9 a1 ∧ True := by
      obtain ⟨a1, b1, h1, h2, _⟩ := h; exact ⟨a1, b1, h1, h2, trivial⟩
    exact t1.elim
  | n + 2, cs, h => by
    obtain ⟨a1, b1, rfl, t1, a2, b2, rfl, t2, a3, b3, rfl, t3, rfl⟩ : ∃ a1 b1, cs = a1 ++ b1 ∧ TyL TY (n + 1) 9 a1 ∧ ∃ a2 b2, b1 = a2 ++ b2 ∧ TyL TY (n + 1) 35 a2 ∧ ∃ a3 b3, b2 = a3 ++ b3 ∧ TyL TY (n + 1) 3 a3 ∧ b3 = [] := h
    obtain ⟨s, rfl, hs⟩ : ∃ s, a1 = [.str s] ∧ s.length ≤ maxLen := t1
    obtain ⟨e, rfl, he⟩ := exp_of _ t2
    obtain ⟨g, rfl, _⟩ : ∃ i, a3 = [.int .i64 i] ∧ (Lit.int .i64 i).wf = true := t3
    exact ⟨⟨s, e, g⟩, rfl, by unfold maxLen at hs; show s.length ≤ _; omega, he⟩
theorem cl_of : ∀ (n : Nat) {cs : List Cell}, TyL TY n 69 cs → ∃ x : Cl, cs = encC x ∧ True
  | 0, cs, h => h.elim
  | 1, cs, h => by
    obtain ⟨a1, b1, rfl, t1, -⟩ : ∃ a1 b1, cs = a1 ++ b1 ∧ TyL TY 0 3 a1 ∧ True := by
      obtain ⟨a1, b1, h1, h2, _⟩ := h; exact ⟨a1, b1, h1, h2, trivial⟩
    exact t1.elim
  | n + 2, cs, h => by
    obtain ⟨a1, b1, rfl, t1, a2, b2, rfl, t2, rfl⟩ : ∃ a1 b1, cs = a1 ++ b1 ∧ TyL TY (n + 1) 3 a1 ∧ ∃ a2 b2, b1 = a2 ++ b2 ∧ TyL TY (n + 1) 3 a2 ∧ b2 = [] := h
    obtain ⟨d, rfl, _⟩ : ∃ i, a1 = [.int .i64 i] ∧ (Lit.int .i64 i).wf = true := t1
    obtain ⟨p, rfl, _⟩ : ∃ i, a2 = [.int .i64 i] ∧ (Lit.int .i64 i).wf = true := t2
    exact ⟨⟨d, p⟩, rfl, trivial⟩
theorem str_of : ∀ (n : Nat) {cs : List Cell}, TyL TY n 9 cs → ∃ x : Str, cs = encS x ∧ x.length ≤ 9223372036854775807
  | 0, cs, h => h.elim
  | n + 1, cs, h => by
    obtain ⟨s, rfl, hs⟩ : ∃ s, cs = [.str s] ∧ s.length ≤ maxLen := h
    exact ⟨s, rfl, by unfold maxLen at hs; omega⟩
theorem ind_of : ∀ (n : Nat) {cs : List Cell}, TyL TY n 40 cs → ∃ x : Ind, cs = encN x ∧ OkN x
  | 0, cs, h => h.elim
  | 1, cs, h => by
    obtain ⟨a1, b1, rfl, t1, -⟩ : ∃ a1 b1, cs = a1 ++ b1 ∧ TyL TY 0 9 a1 ∧ True := by
      obtain ⟨a1, b1, h1, h2, _⟩ := h; exact ⟨a1, b1, h1, h2, trivial⟩
    exact t1.elim
  | n + 2, cs, h => by
    obtain ⟨a1, b1, rfl, t1, a2, b2, rfl, t2, a3, b3, rfl, t3, a4, b4, rfl, t4, a5, b5, rfl, t5, a6, b6, rfl, t6, a7, b7, rfl, t7, a8, b8, rfl, t8, a9, b9, rfl, t9, a10, b10, rfl, t10, a11, b11, rfl, t11, a12, b12, rfl, t12, a13, b13, rfl, t13, a14, b14, rfl, t14, a15, b15, rfl, t15, a16, b16, rfl, t16, a17, b17, rfl, t17, a18, b18, rfl, t18, a19, b19, rfl, t19, a20, b20, rfl, t20, a21, b21, rfl, t21, rfl⟩ : ∃ a1 b1, cs = a1 ++ b1 ∧ TyL TY (n + 1) 9 a1 ∧ ∃ a2 b2, b1 = a2 ++ b2 ∧ TyL TY (n + 1) 9 a2 ∧ ∃ a3 b3, b2 = a3 ++ b3 ∧ TyL TY (n + 1) 3 a3 ∧ ∃ a4 b4, b3 = a4 ++ b4 ∧ TyL TY (n + 1) 3 a4 ∧ ∃ a5 b5, b4 = a5 ++ b5 ∧ TyL TY (n + 1) 3 a5 ∧ ∃ a6 b6, b5 = a6 ++ b6 ∧ TyL TY (n + 1) 3 a6 ∧ ∃ a7 b7, b6 = a7 ++ b7 ∧ TyL TY (n + 1) 3 a7 ∧ ∃ a8 b8, b7 = a8 ++ b8 ∧ TyL TY (n + 1) 3 a8 ∧ ∃ a9 b9, b8 = a9 ++ b9 ∧ TyL TY (n + 1) 3 a9 ∧ ∃ a10 b10, b9 = a10 ++ b10 ∧ TyL TY (n + 1) 3 a10 ∧ ∃ a11 b11, b10 = a11 ++ b11 ∧ TyL TY (n + 1) 32 a11 ∧ ∃ a12 b12, b11 = a12 ++ b12 ∧ TyL TY (n + 1) 35 a12 ∧ ∃ a13 b13, b12 = a13 ++ b13 ∧ TyL TY (n + 1) 3 a13 ∧ ∃ a14 b14, b13 = a14 ++ b14 ∧ TyL TY (n + 1) 36 a14 ∧ ∃ a15 b15, b14 = a15 ++ b15 ∧ TyL TY (n + 1) 37 a15 ∧ ∃ a16 b16, b15 = a16 ++ b16 ∧ TyL TY (n + 1) 3 a16 ∧ ∃ a17 b17, b16 = a17 ++ b17 ∧ TyL TY (n + 1) 38 a17 ∧ ∃ a18 b18, b17 = a18 ++ b18 ∧ TyL TY (n + 1) 3 a18 ∧ ∃ a19 b19, b18 = a19 ++ b19 ∧ TyL TY (n + 1) 3 a19 ∧ ∃ a20 b20, b19 = a20 ++ b20 ∧ TyL TY (n + 1) 3 a20 ∧ ∃ a21 b21, b20 = a21 ++ b21 ∧ TyL TY (n + 1) 3 a21 ∧ b21 = [] := h
    obtain ⟨nm, rfl, hnm⟩ : ∃ s, a1 = [.str s] ∧ s.length ≤ maxLen := t1
    obtain ⟨isr, rfl, hisr⟩ : ∃ s, a2 = [.str s] ∧ s.length ≤ maxLen := t2
    obtain ⟨fa, rfl, _⟩ : ∃ i, a3 = [.int .i64 i] ∧ (Lit.int .i64 i).wf = true := t3
    obtain ⟨st, rfl, _⟩ : ∃ i, a4 = [.int .i64 i] ∧ (Lit.int .i64 i).wf = true := t4
    obtain ⟨du, rfl, _⟩ : ∃ i, a5 = [.int .i64 i] ∧ (Lit.int .i64 i).wf = true := t5
    obtain ⟨ev, rfl, _⟩ : ∃ i, a6 = [.int .i64 i] ∧ (Lit.int .i64 i).wf = true := t6
    obtain ⟨co, rfl, _⟩ : ∃ i, a7 = [.int .i64 i] ∧ (Lit.int .i64 i).wf = true := t7
    obtain ⟨ad, rfl, _⟩ : ∃ i, a8 = [.int .i64 i] ∧ (Lit.int .i64 i).wf = true := t8
    obtain ⟨re, rfl, _⟩ : ∃ i, a9 = [.int .i64 i] ∧ (Lit.int .i64 i).wf = true := t9
    obtain ⟨ra, rfl, _⟩ : ∃ i, a10 = [.int .i64 i] ∧ (Lit.int .i64 i).wf = true := t10
    obtain ⟨rls, rfl, lls, qls⟩ : ∃ rows, a11 = [Cell.sl rows] ∧ rows.length ≤ maxLen ∧ ∀ r ∈ rows, TyL TY n 61 r := t11
    obtain ⟨ls, rfl, ols⟩ := rows_map (f := encL) (p := fun x : Let => x.name.length ≤ 9223372036854775807 ∧ OkE x.body) fun r hr => let_of n (qls r hr)
    have mls : ls.length ≤ 9223372036854775807 := by simp only [List.length_map] at lls; unfold maxLen at lls; omega
    obtain ⟨cp, rfl, hcp⟩ := exp_of _ t12
    obtain ⟨ca, rfl, _⟩ : ∃ i, a13 = [.int .i64 i] ∧ (Lit.int .i64 i).wf = true := t13
    obtain ⟨rvs, rfl, lvs, qvs⟩ : ∃ rows, a14 = [Cell.sl rows] ∧ rows.length ≤ maxLen ∧ ∀ r ∈ rows, TyL TY n 72 r := t14
    obtain ⟨vs, rfl, ovs⟩ := rows_map (f := encV) (p := fun x : Cov => x.name.length ≤ 9223372036854775807 ∧ OkE x.must) fun r hr => cov_of n (qvs r hr)
    have mvs : vs.length ≤ 9223372036854775807 := by simp only [List.length_map] at lvs; unfold maxLen at lvs; omega
    obtain ⟨rfv, rfl, lfv, qfv⟩ : ∃ rows, a15 = [Cell.sl rows] ∧ rows.length ≤ maxLen ∧ ∀ r ∈ rows, TyL TY n 9 r := t15
    obtain ⟨fv, rfl, ofv⟩ := rows_map (f := encS) (p := fun x : Str => x.length ≤ 9223372036854775807) fun r hr => str_of n (qfv r hr)
    have mfv : fv.length ≤ 9223372036854775807 := by simp only [List.length_map] at lfv; unfold maxLen at lfv; omega
    obtain ⟨cr, rfl, _⟩ : ∃ i, a16 = [.int .i64 i] ∧ (Lit.int .i64 i).wf = true := t16
    obtain ⟨rcl, rfl, lcl, qcl⟩ : ∃ rows, a17 = [Cell.sl rows] ∧ rows.length ≤ maxLen ∧ ∀ r ∈ rows, TyL TY n 69 r := t17
    obtain ⟨cl, rfl, ocl⟩ := rows_map (f := encC) (p := fun x : Cl => True) fun r hr => cl_of n (qcl r hr)
    have mcl : cl.length ≤ 9223372036854775807 := by simp only [List.length_map] at lcl; unfold maxLen at lcl; omega
    obtain ⟨no, rfl, _⟩ : ∃ i, a18 = [.int .i64 i] ∧ (Lit.int .i64 i).wf = true := t18
    obtain ⟨si, rfl, _⟩ : ∃ i, a19 = [.int .i64 i] ∧ (Lit.int .i64 i).wf = true := t19
    obtain ⟨ma, rfl, _⟩ : ∃ i, a20 = [.int .i64 i] ∧ (Lit.int .i64 i).wf = true := t20
    obtain ⟨fs, rfl, _⟩ : ∃ i, a21 = [.int .i64 i] ∧ (Lit.int .i64 i).wf = true := t21
    refine ⟨⟨nm, isr, fa, st, du, ev, co, ad, re, ra, ls, cp, ca, vs, fv, cr, cl, no, si, ma, fs⟩, rfl, ⟨?_, ?_, mls, fun y hy => (ols y hy).1, fun y hy => (ols y hy).2, hcp, mvs, fun y hy => (ovs y hy).1, fun y hy => (ovs y hy).2, mfv, ofv, mcl⟩⟩
    · unfold maxLen at hnm; show nm.length ≤ _; omega
    · unfold maxLen at hisr; show isr.length ≤ _; omega
theorem inds_of : ∀ {n : Nat} {c : Cell}, TyL TY n 22 [c] → ∃ l : List Ind, c = .sl (l.map encN) ∧ l.length ≤ 9223372036854775807 ∧ ∀ x ∈ l, OkN x
  | 0, c, h => h.elim
  | n + 1, c, h => by
    obtain ⟨rows, h1, hl, h3⟩ : ∃ rows, [c] = [Cell.sl rows] ∧ rows.length ≤ maxLen ∧ ∀ r ∈ rows, TyL TY n 40 r := h
    obtain rfl := (List.cons.inj h1).1
    obtain ⟨l, rfl, ho⟩ := rows_map (f := encN) (p := OkN) fun r hr => ind_of n (h3 r hr)
    exact ⟨l, rfl, by simp only [List.length_map] at hl; unfold maxLen at hl; omega, ho⟩
theorem ints_of {c : Cell} (h : TyL TY 4 23 [c]) : ∃ l : List Int, c = .sl (l.map encI) ∧ l.length ≤ 9223372036854775807 := by
  obtain ⟨rows, h1, hl, h3⟩ : ∃ rows, [c] = [Cell.sl rows] ∧ rows.length ≤ maxLen ∧ ∀ r ∈ rows, TyL TY 3 3 r := h
  obtain rfl := (List.cons.inj h1).1
  obtain ⟨l, rfl, _⟩ := rows_map (f := encI) (p := fun _ => True) fun r hr => int1_of (n := 2) (h3 r hr)
  exact ⟨l, rfl, by simp only [List.length_map] at hl; unfold maxLen at hl; omega⟩
end Go.Proofs.Ytionjeodcmnneaa
