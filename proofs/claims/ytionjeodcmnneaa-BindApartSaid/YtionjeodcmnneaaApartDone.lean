/-
  BindApart: the row: what came in is read, the contract of the function gives true, and what came in stands.
-/
import Derived.Test.YtionjeodcmnneaaAw
import Derived.Test.YtionjeodcmnneaaLfRead
namespace Go.Proofs.Ytionjeodcmnneaa
open Lf Go Go.ChangeShapes Go.WideShapes Go.ChangeAt Go.RowKit
namespace ApartRow

theorem own : ownKnob Try.prog.godebug = none := by kernel_rfl
theorem laidOut : laidOutB Try.prog = true := by kernel_rfl

set_option maxRecDepth 100000 in
theorem lifted (os : Os) (started : os.Started) (H : Type) (enc : TypeId × Value → H) :
    ReturnsInHanded {} Try.checked os 5 .any (Rows.bindApartSpec.pre6 enc Try.prog Try.f5 Rows.bindApartRow.domain false) (Rows.bindApartSpec.post enc Try.prog Try.f5 false true false false) := by
  refine returnsInHanded_of_change (C := Try.checked) own started (by kernel_rfl) Try.func5
    (ChangeSpec.witness6 (enc := enc) (C := Try.checked) false ⟨#[], #[.slice none 0 0, .slice none 0 0, .slice none 0 0, .slice none 0 0, .int .u8 0], []⟩ 8 (by kernel_rfl) (by kernel_rfl) (by kernel_rfl) (by kernel_rfl)) ?_
  intro W base args ds gs before hval0 hW hcnd _
  have hval : ∀ (j : Nat) t v, Try.f5.params[j]? = some t → args[j]? = some v → Value.okWide Try.prog W .any base t v := hval0
  have hW' := hW
  obtain ⟨p, q, hA0, hV, rfl, hfz, hnd⟩ := hW
  have hA : DataW.TrodAll enc Try.prog W 0 (fun _ => true) true Try.f5.params.toList args.toList ds p := hA0
  rw [Try.params5] at hA hval
  obtain ⟨v0, vs0, d0, ds0, p0, q0, hargs, rfl, rfl, h0, r0⟩ := trodAll_cons hA
  obtain ⟨v1, vs1, d1, ds1, p1, q1, rfl, rfl, rfl, h1, r1⟩ := trodAll_cons r0
  obtain ⟨v2, vs2, d2, ds2, p2, q2, rfl, rfl, rfl, h2, r2⟩ := trodAll_cons r1
  obtain ⟨v3, vs3, d3, ds3, p3, q3, rfl, rfl, rfl, h3, r3⟩ := trodAll_cons r2
  obtain ⟨v4, vs4, d4, ds4, p4, q4, rfl, rfl, rfl, h4, r4⟩ := trodAll_cons r3
  obtain ⟨rfl, rfl, rfl⟩ := trodAll_nil r4
  obtain rfl : args = #[v0, v1, v2, v3, v4] := by cases args; simp_all
  obtain ⟨rfl, rfl⟩ := trodVars_none hV
  have k0 := h0
  have lt0 : ∀ x ∈ p0, x.block < W.heap.size := by obtain ⟨m, hm⟩ := k0; exact DataW.trod_lt m _ _ _ hm
  obtain ⟨n0, c0, rel0, ty0⟩ := readR_slice TYok (S := [22, 40, 9, 3, 32, 61, 35, 33, 36, 72, 37, 38, 69]) (by kernel_rfl) (by simp) Try.underlying22 (hval 0 22 v0 rfl rfl) h0
  obtain ⟨a0, rfl, w0⟩ := inds_of ty0
  have k1 := h1
  have lt1 : ∀ x ∈ p1, x.block < W.heap.size := by obtain ⟨m, hm⟩ := k1; exact DataW.trod_lt m _ _ _ hm
  obtain ⟨n1, c1, rel1, ty1⟩ := readR_slice TYok (S := [22, 40, 9, 3, 32, 61, 35, 33, 36, 72, 37, 38, 69]) (by kernel_rfl) (by simp) Try.underlying22 (hval 1 22 v1 rfl rfl) h1
  obtain ⟨a1, rfl, w1⟩ := inds_of ty1
  have k2 := h2
  have lt2 : ∀ x ∈ p2, x.block < W.heap.size := by obtain ⟨m, hm⟩ := k2; exact DataW.trod_lt m _ _ _ hm
  obtain ⟨c2, rel2, ty2⟩ := read_slice TYok 4 Try.underlying23 (by kernel_rfl) (hval 2 23 v2 rfl rfl) h2
  obtain ⟨a2, rfl, w2⟩ := ints_of ty2
  have k3 := h3
  have lt3 : ∀ x ∈ p3, x.block < W.heap.size := by obtain ⟨m, hm⟩ := k3; exact DataW.trod_lt m _ _ _ hm
  obtain ⟨c3, rel3, ty3⟩ := read_slice TYok 4 Try.underlying23 (by kernel_rfl) (hval 3 23 v3 rfl rfl) h3
  obtain ⟨a3, rfl, w3⟩ := ints_of ty3
  obtain ⟨a4, rfl, rfl, rfl, w4⟩ := open_int Try.underlying5 (hval 4 5 v4 rfl rfl) h4
  clear hA0 hval0
  have hc := (apart_ok a0 a1 a2 a3 a4 (by have q := w4; simp [Lit.wf] at q; exact q) ⟨w0.2, w0.1⟩ ⟨w1.2, w1.1⟩).calls (allΦ W) W #[v0, v1, v2, v3, .int .u8 a4] (fits_all W)
    (ArgsRel.of (ArgsL.cons rel0 (ArgsL.cons rel1 (ArgsL.cons rel2 (ArgsL.cons rel3 (ArgsL.cons (Rel.int _ _) ArgsL.nil))))))
  refine hc.mono fun e W' ⟨v, Φ', he, hv, _, _, _, bel⟩ => ?_
  subst he
  obtain rfl : v = .bool true := AVRel.bool hv
  exact ⟨_, rfl, _, _, _, [], _, [], hW', trodAll_mk1 (shut_bool Try.underlying4 _), (trodAll_cons_mk (Below.trod laidOut (by kernel_rfl) (of_decide_eq_true (by kernel_rfl)) k0 bel lt0) (trodAll_cons_mk (Below.trod laidOut (by kernel_rfl) (of_decide_eq_true (by kernel_rfl)) k1 bel lt1) (trodAll_cons_mk (Below.trod laidOut (by kernel_rfl) (of_decide_eq_true (by kernel_rfl)) k2 bel lt2) (trodAll_cons_mk (Below.trod laidOut (by kernel_rfl) (of_decide_eq_true (by kernel_rfl)) k3 bel lt3) (trodAll_cons_mk (shut_int Try.underlying5 w4) trodAll_mk0))))), rfl, bel.frame _, fun h => by cases h⟩

theorem over : Rows.bindApartRow.holds Try.pinned (OpenSpec.ofChange Rows.bindApartSpec) :=
  OpenClaim.holds_of_wide 5 Try.f5 rfl rfl rfl rfl rfl rfl rfl ⟨rfl, rfl, rfl, rfl, rfl⟩ rfl rfl rfl rfl rfl (by kernel_rfl) Try.func5 (by kernel_rfl)
    (of_decide_eq_true (by kernel_rfl)) (by unfold Func.isWrapper; first | (rw [if_pos (by decide +kernel)]; kernel_rfl) | (rw [if_neg (by decide +kernel)]; exact ⟨rfl, rfl⟩))
    (fun os started H enc _ => lifted os started H enc)
end ApartRow

theorem bindApart_proved : Rows.BindApartSaid := ApartRow.over
end Go.Proofs.Ytionjeodcmnneaa
