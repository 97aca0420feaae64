/-
  An own slice that is lent whole to a callee; functions of the kit's library, as contracts of this logic.
-/
import Derived.Test.YtipghibmgfhmpaaGreatDoorLfSub
import Derived.Test.YtipghibmgfhmpaaGreatDoorLfG
import Derived.Test.YtipghibmgfhmpaaGreatDoorLfRead
import Derived.Lib.LaidTab
set_option linter.unusedVariables false
set_option linter.unusedSimpArgs false
set_option linter.unusedSectionVars false
namespace Lf
open Go Go.RowKit
section
variable {P : Program} {G : Ghost} {A : St} {Φ : Frz} {β : Own} {a : Act} {w w' : World}
theorem E_calllend {o : Oper} {f : FuncId} {x : Operand} {ats : Array TypeId} {E sz d m : Nat} {rows rows' : List (List Cell)} {r : AV} (ho : o.op = .call { callee := .value (.func f), args := #[x], argTypes := ats }) (hd : o.dst = some d) (hn : d < A.n)
    (hx0 : Ev A True x (.slc m)) (hl : lk A.blks m = some ⟨E, sz, rows⟩) (hne : rows ≠ []) (hlen : rows'.length = rows.length) (hc : SCalls P f E sz rows 0 rows.length [] (fun _ _ => r) rows') :
    EffOp P G A o ({ A with blks := (m, ⟨E, sz, rows'⟩) :: A.blks }.set d True r) := fun Φ β a w hs => by
  have ho' : o.op = .call { callee := .value (.func f), args := [x].toArray, argTypes := ats } := ho
  unfold Oper.wp
  rw [call_run ho' hc.fn]
  obtain ⟨B, h2, hob, h3⟩ := hs.ev hx0 trivial
  rw [hl] at h2
  obtain rfl := Option.some.inj h2
  rcases h3 with ⟨h3, h4⟩ | ⟨b, cap, h3, h4⟩
  · exact absurd (hs.vir m _ hl h3) hne
  obtain ⟨g1, g2, g3⟩ := hs.blk m _ b cap hl h3
  refine Calls.mono (hc.calls Φ w _ b cap hs.fits (by simp [h4]) (by simp) (fun j q hq => by simp at hq) g3 g1) ?_
  rintro e w' ⟨v, Φ', rfl, hv, hle', heq, hfit, hbl, hb⟩
  have hs1 := hs.lend (rows := rows') hl h3 hob hlen hle' heq hfit hbl hb
  show ∃ Φ'' β', Sat G Φ'' β' _ (a.put o.dst v) w' ∧ Φ.le Φ''
  rw [hd]
  exact ⟨Φ', β, hs1.put hn hv.ret, hle'⟩
/-- what came with the call -/
theorem args1 {Φ : Frz} {vs : Array Value} {p : PV} (h : ArgsRel Φ vs [p]) : ∃ v, vs = #[v] ∧ PRel Φ v p := by
  obtain ⟨hsz, hv⟩ := h
  obtain ⟨v0, h0, r0⟩ := hv 0 _ rfl
  refine ⟨v0, ?_, r0⟩
  apply Array.ext
  · exact hsz
  · intro i h2 h3
    have h4 : i = 0 := by simp at h3; omega
    subst h4
    have := h0; rw [Array.getElem?_eq_getElem h2] at this; simpa using this
theorem args2 {Φ : Frz} {vs : Array Value} {p q : PV} (h : ArgsRel Φ vs [p, q]) : ∃ v u, vs = #[v, u] ∧ PRel Φ v p ∧ PRel Φ u q := by
  obtain ⟨hsz, hv⟩ := h
  obtain ⟨v0, h0, r0⟩ := hv 0 _ rfl
  obtain ⟨v1, h1, r1⟩ := hv 1 _ rfl
  refine ⟨v0, v1, ?_, r0, r1⟩
  apply Array.ext
  · exact hsz
  · intro i h2 h3
    have h4 : i = 0 ∨ i = 1 := by simp at h3; omega
    rcases h4 with rfl | rfl
    · have := h0; rw [Array.getElem?_eq_getElem h2] at this; simpa using this
    · have := h1; rw [Array.getElem?_eq_getElem h2] at this; simpa using this
theorem str_of {Φ : Frz} {v : Value} {s : List UInt8} (h : PRel Φ v (.one (.str s))) : v = .string ⟨s.toArray⟩ := by
  have h' : Rel Φ v (.str s) := h
  cases h'; simp
theorem ba_size (s : List UInt8) : (⟨s.toArray⟩ : ByteArray).size = s.length := by simp [ByteArray.size]
theorem rel_mk {Φ : Frz} (s : List UInt8) : AVRel Φ (fun _ => none) [] (.string ⟨s.toArray⟩) (.pv (.one (.str s))) := by
  have := Rel.str (Φ := Φ) ⟨s.toArray⟩
  show Rel Φ _ _
  simpa using this
theorem int_of {Φ : Frz} {v : Value} {k : IntKind} {n : Int} (h : PRel Φ v (.one (.int k n))) : v = .int k n := by
  have h' : Rel Φ v (.int k n) := h
  cases h'; rfl
/-- the end of a function that returns what has no address -/
theorem fin_flat {Φ : Frz} {w : World} {v0 : Value} {r : AV} (hfit : Fits Φ w) (hr : AVRel Φ (fun _ => none) [] v0 r) {e : Ending} {w' : World} (he : e = .returned v0) (hb : Below w.heap.size w w') :
    ∃ v Φ', e = .returned v ∧ AVRel Φ' (fun _ => none) [] v r ∧ Φ.le Φ' ∧ (∀ b, b < w.heap.size → Φ' b = Φ b) ∧ Fits Φ' w' ∧ Below w.heap.size w w' := by
  subst he
  refine ⟨v0, Φ, rfl, hr, Φ.le_refl, fun _ _ => rfl, fun b c h => ?_, hb⟩
  obtain ⟨E, fz, hw⟩ := hfit b c h
  exact ⟨E, fz, by rw [hb.block b (Array.getElem?_eq_some_iff.1 hw).1]; exact hw⟩
theorem relL_ints {Φ : Frz} {k : IntKind} : ∀ {vs : List Value} {zs : List Int}, RelL Φ vs (zs.map (Cell.int k)) → vs = zs.map (Value.int k)
  | [], [], _ => rfl
  | [], _ :: _, h => by cases h
  | _ :: _, [], h => by cases h
  | v :: vs, z :: zs, h => by
    rw [List.map_cons, relL_ints h.2]
    have h' : Rel Φ v (.int k z) := h.1
    cases h'; rfl
theorem relL_ints_mk {Φ : Frz} {k : IntKind} : ∀ zs : List Int, RelL Φ (zs.map (Value.int k)) (zs.map (Cell.int k))
  | [] => trivial
  | z :: zs => ⟨Rel.int _ _, relL_ints_mk zs⟩
/-- a table of numbers, out of what the contracts know of it, and back -/
theorem tabIs_of {Φ : Frz} {w : World} {γ : Nat} {k : IntKind} {zs : List Int} {name : String} (hg : P.globalNamed name = some γ) (hfit : Fits Φ w) (h : RelG Φ γ (zs.map (Cell.int k))) : Lib.TabIs P w name k zs := by
  obtain ⟨arr, h1, h2⟩ := h
  obtain ⟨E, fz, hw⟩ := hfit γ arr h1
  have h3 := relL_ints (h2 Φ)
  unfold Lib.TabIs World.var?
  rw [hg]
  simp only [Option.bind_some, hw]
  rw [← h3]
theorem relG_of {W : World} {γ : Nat} {k : IntKind} {zs : List Int} {name : String} (hg : P.globalNamed name = some γ) (h : Lib.TabIs P W name k zs) : RelG (allΦ W) γ (zs.map (Cell.int k)) := by
  unfold Lib.TabIs World.var? at h
  rw [hg] at h
  simp only [Option.bind_some] at h
  refine ⟨(zs.map (Value.int k)).toArray, ?_, fun Φ' => by simpa using relL_ints_mk zs⟩
  unfold allΦ
  split at h
  · rename_i c _ _ hw
    obtain rfl := Option.some.inj h
    rw [hw]
  · cases h
end
section
variable {P : Program} {G : Ghost} {ops : Array Oper} {rest : List Oper} {Q : St → Prop} {n0 : Nat} {env : List (Nat × (Prop × AV))} {bl : List (Nat × Blk)} {ty : TypeId} {pos : String} {after : Array Edge}
theorem S_calllend {d m E sz : Nat} {rows rows' : List (List Cell)} {f : FuncId} {x : Operand} {ats : Array TypeId} {r : AV} (hc : SCalls P f E sz rows 0 rows.length [] (fun _ _ => r) rows') (hx0 : Ev (St.mk n0 env bl) True x (.slc m)) (hl : lk bl m = some ⟨E, sz, rows⟩) (hne : rows ≠ []) (hlen : rows'.length = rows.length) (hn : Nat.blt d n0 = true)
    (h : RG P G ops rest Q (St.mk n0 ((d, (True, r)) :: env) ((m, ⟨E, sz, rows'⟩) :: bl))) : RG P G ops (⟨some d, .call ⟨.value (.func f), #[x], ats⟩, ty, pos, after, none⟩ :: rest) Q (St.mk n0 env bl) :=
  RG.eff rfl (E_calllend rfl rfl (blt_lt hn) hx0 hl hne hlen hc) h
end
end Lf
