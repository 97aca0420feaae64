/-
  BasketReports: the row: what came in is read, the contract of the function gives true, and what came in stands.
-/
import Derived.Test.YtceggnkijedonaaRead
import Derived.Test.YtceggnkijedonaaReports
import Derived.SizedLaws
import Derived.Test.YtceggnkijedonaaLfRead
namespace Go.Proofs.Ytceggnkijedonaa
open Lf Go Go.ChangeShapes Go.WideShapes Go.ChangeAt Go.RowKit
theorem facts_room {H : Type} {enc : TypeId × Value → H} {W : World} {base : Nat} {spare : Nat → Bool} {held : Bool} {d : DataW H} {ps : List MemPlace} {v : Value} {l : List Fact} (hd : DataW.Trod enc Try.prog W base spare held 24 v d ps) (rel : Rel (allΦ W) v (.sl (l.map encF)))
    (hz : ∀ elems spare, d = .slice elems spare → (elems.length + spare.length) * 48 ≤ reachBytes) : (l.length + 1) * 48 ≤ 140737488355328 := by
  obtain ⟨fuel, hf⟩ := hd
  have h1 := rel.one.1
  have hnil : v = .slice none 0 0 → l = [] := fun e => by
    subst e
    generalize hr : l.map encF = rows at rel
    cases rel with
    | sl0 => cases l with
      | nil => rfl
      | cons a l => simp at hr
  rcases DataW.trod_slice Try.underlying24 hf with ⟨hv, hx⟩ | ⟨a, len, cap, elems, rest, n, _, hv, hx, _, _, _, hl, _⟩
  · rw [h1] at hv
    have : v = .slice none 0 0 := by simpa using hv
    rw [hnil this]; decide
  · rw [h1] at hv
    have hv' : v = .slice (some a) len cap := by simpa using hv
    simp only [Prod.mk.injEq] at hx
    have hr := hz _ _ hx.1
    simp only [List.length_map] at hr
    have hlen : l.length ≤ len := by
      subst hv'
      generalize hq : l.map encF = rows at rel
      cases rel with
      | slE a cap => cases l with
        | nil => simp
        | cons a l => simp at hq
      | sl b off len cap sz rows f hlen =>
        rw [← hq] at hlen; simp at hlen; omega
    unfold reachBytes at hr
    omega
namespace ReportsRow

theorem own : ownKnob Try.prog.godebug = none := by kernel_rfl
theorem laidOut : laidOutB Try.prog = true := by kernel_rfl

set_option maxRecDepth 100000 in
theorem lifted (os : Os) (started : os.Started) (H : Type) (enc : TypeId × Value → H) :
    ReturnsInHanded {} Try.checked os 7 .any (Rows.basketReportsSpec.pre6 enc Try.prog Try.f7 Rows.basketReportsRow.domain false) (Rows.basketReportsSpec.post enc Try.prog Try.f7 false true false false) := by
  refine returnsInHanded_of_change_sized (C := Try.checked) own started (by kernel_rfl) Try.func7
    (ChangeSpec.witness6 (enc := enc) (C := Try.checked) false ⟨#[], #[.agg #[.int .i64 0, .int .i64 0, .int .i64 0, .string ⟨#[]⟩], .slice none 0 0, .agg #[.int .i64 0, .string ⟨#[]⟩, .int .i64 0, .int .i64 0, .int .i64 0], .int .i64 0, .int .i64 0], []⟩ 8 (by kernel_rfl) (by kernel_rfl) (by kernel_rfl) (by kernel_rfl)) ?_
  intro W base args ds gs before hval0 hW hcnd hz _
  have hval : ∀ (j : Nat) t v, Try.f7.params[j]? = some t → args[j]? = some v → Value.okWide Try.prog W .any base t v := hval0
  have hW' := hW
  obtain ⟨p, q, hA0, hV, rfl, hfz, hnd⟩ := hW
  have hA : DataW.TrodAll enc Try.prog W 0 (fun _ => true) true Try.f7.params.toList args.toList ds p := hA0
  rw [Try.params7] at hA hval
  obtain ⟨v0, vs0, d0, ds0, p0, q0, hargs, rfl, rfl, h0, r0⟩ := trodAll_cons hA
  obtain ⟨v1, vs1, d1, ds1, p1, q1, rfl, rfl, rfl, h1, r1⟩ := trodAll_cons r0
  obtain ⟨v2, vs2, d2, ds2, p2, q2, rfl, rfl, rfl, h2, r2⟩ := trodAll_cons r1
  obtain ⟨v3, vs3, d3, ds3, p3, q3, rfl, rfl, rfl, h3, r3⟩ := trodAll_cons r2
  obtain ⟨v4, vs4, d4, ds4, p4, q4, rfl, rfl, rfl, h4, r4⟩ := trodAll_cons r3
  obtain ⟨rfl, rfl, rfl⟩ := trodAll_nil r4
  obtain rfl : args = #[v0, v1, v2, v3, v4] := by cases args; simp_all
  obtain ⟨rfl, rfl⟩ := trodVars_none hV
  have k0 := h0
  have lt0 : ∀ x ∈ p0, x.block < W.heap.size := by obtain ⟨m, hm⟩ := k0; exact DataW.trod_lt m _ _ _ hm
  obtain ⟨c0, rel0, ty0⟩ := read_struct TYok 4 Try.underlying23 (by kernel_rfl) (hval 0 23 v0 rfl rfl) h0
  obtain ⟨a0, rfl, w0⟩ := basket_of ty0
  have k1 := h1
  have lt1 : ∀ x ∈ p1, x.block < W.heap.size := by obtain ⟨m, hm⟩ := k1; exact DataW.trod_lt m _ _ _ hm
  obtain ⟨c1, rel1, ty1⟩ := read_slice TYok 4 Try.underlying24 (by kernel_rfl) (hval 1 24 v1 rfl rfl) h1
  obtain ⟨a1, rfl, w1⟩ := facts_of ty1
  have k2 := h2
  have lt2 : ∀ x ∈ p2, x.block < W.heap.size := by obtain ⟨m, hm⟩ := k2; exact DataW.trod_lt m _ _ _ hm
  obtain ⟨c2, rel2, ty2⟩ := read_struct TYok 4 Try.underlying46 (by kernel_rfl) (hval 2 46 v2 rfl rfl) h2
  obtain ⟨a2, rfl, w2⟩ := fact1_of ty2
  obtain ⟨a3, rfl, rfl, rfl, w3⟩ := open_int Try.underlying3 (hval 3 3 v3 rfl rfl) h3
  obtain ⟨a4, rfl, rfl, rfl, w4⟩ := open_int Try.underlying3 (hval 4 3 v4 rfl rfl) h4
  clear hA0 hval0
  have room : ∀ elems spare, d1 = .slice elems spare → (elems.length + spare.length) * 48 ≤ reachBytes := fun elems spare e => by
    subst e
    exact sized_slice (P := Try.prog) hz (j := 1) (t := 24) (e := 46) rfl rfl Try.underlying24
  have hc := (reports_ok a0 a1 a2 a3 a4 w0 w1 w2 (facts_room k1 rel1 room)).calls (allΦ W) W #[v0, v1, v2, .int .i64 a3, .int .i64 a4] (fits_all W)
    (ArgsRel.of (ArgsL.cons rel0 (ArgsL.cons rel1 (ArgsL.cons rel2 (ArgsL.cons (Rel.int _ _) (ArgsL.cons (Rel.int _ _) ArgsL.nil))))))
  refine hc.mono fun e W' ⟨v, Φ', he, hv, _, _, _, bel⟩ => ?_
  subst he
  obtain rfl : v = .bool true := AVRel.bool hv
  exact ⟨_, rfl, _, _, _, [], _, [], hW', trodAll_mk1 (shut_bool Try.underlying4 _), (trodAll_cons_mk (Below.trod laidOut (by kernel_rfl) (of_decide_eq_true (by kernel_rfl)) k0 bel lt0) (trodAll_cons_mk (Below.trod laidOut (by kernel_rfl) (of_decide_eq_true (by kernel_rfl)) k1 bel lt1) (trodAll_cons_mk (Below.trod laidOut (by kernel_rfl) (of_decide_eq_true (by kernel_rfl)) k2 bel lt2) (trodAll_cons_mk (shut_int Try.underlying3 w3) (trodAll_cons_mk (shut_int Try.underlying3 w4) trodAll_mk0))))), rfl, bel.frame _, fun h => by cases h⟩

theorem over : Rows.basketReportsRow.holds Try.pinned (OpenSpec.ofChange Rows.basketReportsSpec) :=
  OpenClaim.holds_of_wide 7 Try.f7 rfl rfl rfl rfl rfl rfl rfl ⟨rfl, rfl, rfl, rfl, rfl⟩ rfl rfl rfl rfl rfl (by kernel_rfl) Try.func7 (by kernel_rfl)
    (of_decide_eq_true (by kernel_rfl)) (by unfold Func.isWrapper; first | (rw [if_pos (by decide +kernel)]; kernel_rfl) | (rw [if_neg (by decide +kernel)]; exact ⟨rfl, rfl⟩))
    (fun os started H enc _ => lifted os started H enc)
end ReportsRow

theorem basketReports_proved : Rows.BasketReportsSaid := ReportsRow.over
end Go.Proofs.Ytceggnkijedonaa
