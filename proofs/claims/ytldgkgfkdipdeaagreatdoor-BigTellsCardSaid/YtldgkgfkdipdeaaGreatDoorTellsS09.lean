/-
  Part 9 of what the proof rests on.
-/
import Derived.Test.YtldgkgfkdipdeaaGreatDoorTellsS04
import Derived.Test.YtldgkgfkdipdeaaGreatDoorTellsS03
import Derived.Test.YtldgkgfkdipdeaaGreatDoorTellsS08
import Derived.Lib.LaidTab
import Derived.Test.YtldgkgfkdipdeaaGreatDoorTellsS06
import Derived.Test.YtldgkgfkdipdeaaGreatDoorTellsS05
import Derived.Test.YtldgkgfkdipdeaaGreatDoorTellsS02
import Derived.Test.YtldgkgfkdipdeaaGreatDoorTellsS07
section
set_option linter.unusedVariables false
set_option linter.unusedSimpArgs false
set_option linter.unusedSectionVars false
namespace Lf
open Go Go.RowKit
section
variable {P : Program} {G : Ghost} {A : St} {Φ : Frz} {β : Own} {a : Act} {w w' : World}
theorem E_calllend {o : Oper} {f : FuncId} {x : Operand} {ats : Array TypeId} {E sz d m : Nat} {rows rows' : List (List Cell)} {r : AV} (ho : o.op = .call { callee := .value (.func f), args := #[x], argTypes := ats }) (hd : o.dst = some d) (hn : d < A.n)
    (hx0 : Ev A True x (.slc m)) (hl : lk A.blks m = some ⟨E, sz, rows⟩) (hne : rows ≠ []) (hlen : rows'.length = rows.length) (hc : SCalls P f E sz rows 0 rows.length [] (fun _ _ => r) rows') :
    EffOp P G A o ({ A with blks := (m, ⟨E, sz, rows'⟩) :: A.blks }.set d True r) := fun Φ β a w hs => by
  have ho' : o.op = .call { callee := .value (.func f), args := [x].toArray, argTypes := ats } := ho
  unfold Oper.wp
  rw [call_run ho' hc.fn]
  obtain ⟨B, h2, hob, h3⟩ := hs.ev hx0 trivial
  rw [hl] at h2
  obtain rfl := Option.some.inj h2
  rcases h3 with ⟨h3, h4⟩ | ⟨b, cap, h3, h4⟩
  · exact absurd (hs.vir m _ hl h3) hne
  obtain ⟨g1, g2, g3⟩ := hs.blk m _ b cap hl h3
  refine Calls.mono (hc.calls Φ w _ b cap hs.fits (by simp [h4]) (by simp) (fun j q hq => by simp at hq) g3 g1) ?_
  rintro e w' ⟨v, Φ', rfl, hv, hle', heq, hfit, hbl, hb⟩
  have hs1 := hs.lend (rows := rows') hl h3 hob hlen hle' heq hfit hbl hb
  show ∃ Φ'' β', Sat G Φ'' β' _ (a.put o.dst v) w' ∧ Φ.le Φ''
  rw [hd]
  exact ⟨Φ', β, hs1.put hn hv.ret, hle'⟩
/-- what came with the call -/
theorem args1 {Φ : Frz} {vs : Array Value} {p : PV} (h : ArgsRel Φ vs [p]) : ∃ v, vs = #[v] ∧ PRel Φ v p := by
  obtain ⟨hsz, hv⟩ := h
  obtain ⟨v0, h0, r0⟩ := hv 0 _ rfl
  refine ⟨v0, ?_, r0⟩
  apply Array.ext
  · exact hsz
  · intro i h2 h3
    have h4 : i = 0 := by simp at h3; omega
    subst h4
    have := h0; rw [Array.getElem?_eq_getElem h2] at this; simpa using this
theorem args2 {Φ : Frz} {vs : Array Value} {p q : PV} (h : ArgsRel Φ vs [p, q]) : ∃ v u, vs = #[v, u] ∧ PRel Φ v p ∧ PRel Φ u q := by
  obtain ⟨hsz, hv⟩ := h
  obtain ⟨v0, h0, r0⟩ := hv 0 _ rfl
  obtain ⟨v1, h1, r1⟩ := hv 1 _ rfl
  refine ⟨v0, v1, ?_, r0, r1⟩
  apply Array.ext
  · exact hsz
  · intro i h2 h3
    have h4 : i = 0 ∨ i = 1 := by simp at h3; omega
    rcases h4 with rfl | rfl
    · have := h0; rw [Array.getElem?_eq_getElem h2] at this; simpa using this
    · have := h1; rw [Array.getElem?_eq_getElem h2] at this; simpa using this
theorem str_of {Φ : Frz} {v : Value} {s : List UInt8} (h : PRel Φ v (.one (.str s))) : v = .string ⟨s.toArray⟩ := by
  have h' : Rel Φ v (.str s) := h
  cases h'; simp
theorem ba_size (s : List UInt8) : (⟨s.toArray⟩ : ByteArray).size = s.length := by simp [ByteArray.size]
theorem rel_mk {Φ : Frz} (s : List UInt8) : AVRel Φ (fun _ => none) [] (.string ⟨s.toArray⟩) (.pv (.one (.str s))) := by
  have := Rel.str (Φ := Φ) ⟨s.toArray⟩
  show Rel Φ _ _
  simpa using this
theorem int_of {Φ : Frz} {v : Value} {k : IntKind} {n : Int} (h : PRel Φ v (.one (.int k n))) : v = .int k n := by
  have h' : Rel Φ v (.int k n) := h
  cases h'; rfl
/-- the end of a function that returns what has no address -/
theorem fin_flat {Φ : Frz} {w : World} {v0 : Value} {r : AV} (hfit : Fits Φ w) (hr : AVRel Φ (fun _ => none) [] v0 r) {e : Ending} {w' : World} (he : e = .returned v0) (hb : Below w.heap.size w w') :
    ∃ v Φ', e = .returned v ∧ AVRel Φ' (fun _ => none) [] v r ∧ Φ.le Φ' ∧ (∀ b, b < w.heap.size → Φ' b = Φ b) ∧ Fits Φ' w' ∧ Below w.heap.size w w' := by
  subst he
  refine ⟨v0, Φ, rfl, hr, Φ.le_refl, fun _ _ => rfl, fun b c h => ?_, hb⟩
  obtain ⟨E, fz, hw⟩ := hfit b c h
  exact ⟨E, fz, by rw [hb.block b (Array.getElem?_eq_some_iff.1 hw).1]; exact hw⟩
theorem relL_ints {Φ : Frz} {k : IntKind} : ∀ {vs : List Value} {zs : List Int}, RelL Φ vs (zs.map (Cell.int k)) → vs = zs.map (Value.int k)
  | [], [], _ => rfl
  | [], _ :: _, h => by cases h
  | _ :: _, [], h => by cases h
  | v :: vs, z :: zs, h => by
    rw [List.map_cons, relL_ints h.2]
    have h' : Rel Φ v (.int k z) := h.1
    cases h'; rfl
theorem relL_ints_mk {Φ : Frz} {k : IntKind} : ∀ zs : List Int, RelL Φ (zs.map (Value.int k)) (zs.map (Cell.int k))
  | [] => trivial
  | z :: zs => ⟨Rel.int _ _, relL_ints_mk zs⟩
/-- a table of numbers, out of what the contracts know of it, and back -/
theorem tabIs_of {Φ : Frz} {w : World} {γ : Nat} {k : IntKind} {zs : List Int} {name : String} (hg : P.globalNamed name = some γ) (hfit : Fits Φ w) (h : RelG Φ γ (zs.map (Cell.int k))) : Lib.TabIs P w name k zs := by
  obtain ⟨arr, h1, h2⟩ := h
  obtain ⟨E, fz, hw⟩ := hfit γ arr h1
  have h3 := relL_ints (h2 Φ)
  unfold Lib.TabIs World.var?
  rw [hg]
  simp only [Option.bind_some, hw]
  rw [← h3]
theorem relG_of {W : World} {γ : Nat} {k : IntKind} {zs : List Int} {name : String} (hg : P.globalNamed name = some γ) (h : Lib.TabIs P W name k zs) : RelG (allΦ W) γ (zs.map (Cell.int k)) := by
  unfold Lib.TabIs World.var? at h
  rw [hg] at h
  simp only [Option.bind_some] at h
  refine ⟨(zs.map (Value.int k)).toArray, ?_, fun Φ' => by simpa using relL_ints_mk zs⟩
  unfold allΦ
  split at h
  · rename_i c _ _ hw
    obtain rfl := Option.some.inj h
    rw [hw]
  · cases h
end
section
variable {P : Program} {G : Ghost} {ops : Array Oper} {rest : List Oper} {Q : St → Prop} {n0 : Nat} {env : List (Nat × (Prop × AV))} {bl : List (Nat × Blk)} {ty : TypeId} {pos : String} {after : Array Edge}
theorem S_calllend {d m E sz : Nat} {rows rows' : List (List Cell)} {f : FuncId} {x : Operand} {ats : Array TypeId} {r : AV} (hc : SCalls P f E sz rows 0 rows.length [] (fun _ _ => r) rows') (hx0 : Ev (St.mk n0 env bl) True x (.slc m)) (hl : lk bl m = some ⟨E, sz, rows⟩) (hne : rows ≠ []) (hlen : rows'.length = rows.length) (hn : Nat.blt d n0 = true)
    (h : RG P G ops rest Q (St.mk n0 ((d, (True, r)) :: env) ((m, ⟨E, sz, rows'⟩) :: bl))) : RG P G ops (⟨some d, .call ⟨.value (.func f), #[x], ats⟩, ty, pos, after, none⟩ :: rest) Q (St.mk n0 env bl) :=
  RG.eff rfl (E_calllend rfl rfl (blt_lt hn) hx0 hl hne hlen hc) h
end
end Lf
end
section
set_option linter.unusedVariables false
set_option linter.unusedSimpArgs false
set_option maxHeartbeats 8000000
namespace Go.Proofs.YtldgkgfkdipdeaaGreatDoor
open Lf Go
attribute [local irreducible] PureOp EffOp Ev RG W Then InBlock Lf.Fin nth App InitE Pick SubE EvL EvD EvP EvR ResL Lf.Lex SubR SubBR FinO FinM ResM ResD FinS val pw digs trimL
section
open Go.RowKit
abbrev Str := List UInt8
abbrev cS (s : Str) : PV := .one (.str s)
def encS (s : Str) : List Cell := [.str s]
abbrev slS (l : List Str) : PV := .one (.sl (l.map encS))
theorem trimS_ok (s cs : Str) (hs : s.length ≤ 9223372036854775807) (hcs : cs.length < 4294967281) (ha : cs.all (fun b => decide (b.toNat < 128)) = true) : ACalls Tryz.prog 49 [cS s, cS cs] (.pv (cS (Lib.trimS s cs))) where
  fn := ⟨_, Tryz.func49, by kernel_rfl, rfl⟩
  calls := fun Φ w vs hfit harg => by
    obtain ⟨v, u, rfl, r0, r1⟩ := args2 harg
    obtain rfl := str_of r0
    obtain rfl := str_of r1
    refine (Tryz.strings_Trim_laid ⟨s.toArray⟩ ⟨cs.toArray⟩ w (by rw [ba_size]; exact hs) (by rw [ba_size]; exact hcs) (by simpa using ascii_of_all ha)).mono fun e w' ⟨he, hb⟩ => ?_
    exact fin_flat hfit (v0 := .string ⟨(Lib.trimS s cs).toArray⟩) (rel_mk _) (by simpa using he) hb
theorem repeat_ok (s : Str) (c : Nat) (hc : s.length * c ≤ 140737488355328) (hc2 : c ≤ 9223372036854775807) : ACalls Tryz.prog 57 [cS s, cI c] (.pv (cS (Lib.repeatL s c))) where
  fn := ⟨_, Tryz.func57, by kernel_rfl, rfl⟩
  calls := fun Φ w vs hfit harg => by
    obtain ⟨v, u, rfl, r0, r1⟩ := args2 harg
    obtain rfl := str_of r0
    obtain rfl := int_of r1
    refine (Tryz.strings_Repeat ⟨s.toArray⟩ c w hc2 (by rw [ba_size]; exact hc)).mono fun e w' ⟨he, hb⟩ => ?_
    exact fin_flat hfit (v0 := .string ⟨(Lib.repeatL s c).toArray⟩) (rel_mk _) (by simpa using he) hb
abbrev powC : List Cell := Lib.pow10Tab.map (Cell.int .u64)
theorem pow_named : Tryz.prog.globalNamed "internal/strconv.uint64pow10" = some 2 := by kernel_rfl
theorem itoa_ok (n : Int) (hn : i64B n) : GCalls Tryz.prog 2 powC 56 [cI n] (.pv (cS (Lib.itoa n))) where
  fn := ⟨_, Tryz.func56, by kernel_rfl, rfl⟩
  calls := fun Φ w vs hfit hg harg => by
    obtain ⟨v, rfl, r0⟩ := args1 harg
    obtain rfl := int_of r0
    refine (Tryz.strconv_Itoa n hn.1 hn.2 w (tabIs_of pow_named hfit hg)).mono fun e w' ⟨he, k, os, hw⟩ => ?_
    refine fin_flat hfit (v0 := .string ⟨(Lib.itoa n).toArray⟩) (rel_mk _) he ?_
    subst hw
    exact ⟨rfl, rfl, rfl, by simp [Go.Sort.grow, World.drewN], fun b hb => by simp [Go.Sort.grow, World.drewN, Array.getElem?_append_left hb]⟩
theorem rel_strS {Φ : Frz} {v : Value} {s : Str} (h : Rel Φ v (.str s)) : v = .string ⟨s.toArray⟩ := by
  cases h; simp
theorem join_ok (l : List Str) (sep : Str) (hn : l.length ≤ 140737488355328) (hj : (Lib.join l sep).length ≤ 140737488355328) : ACalls Tryz.prog 59 [slS l, cS sep] (.pv (cS (Lib.join l sep))) where
  fn := ⟨_, Tryz.func59, by kernel_rfl, rfl⟩
  calls := fun Φ w vs hfit harg => by
    obtain ⟨hsz, hv⟩ := harg
    obtain ⟨v0, h0, r0⟩ := hv 0 _ rfl
    obtain ⟨v1, h1, r1⟩ := hv 1 _ rfl
    have hvs : vs = #[v0, v1] := by
      apply Array.ext
      · exact hsz
      · intro i h2 h3
        have h4 : i = 0 ∨ i = 1 := by simp at h3; omega
        rcases h4 with rfl | rfl
        · have := h0; rw [Array.getElem?_eq_getElem h2] at this; simpa using this
        · have := h1; rw [Array.getElem?_eq_getElem h2] at this; simpa using this
    subst hvs
    have e1 : v1 = .string ⟨sep.toArray⟩ := rel_strS r1
    subst e1
    have fin : ∀ e w', (e = Ending.returned (.string ⟨(Lib.join l sep).toArray⟩) ∧ Below w.heap.size w w') → ∃ v Φ', e = .returned v ∧ AVRel Φ' (fun _ => none) [] v (.pv (cS (Lib.join l sep))) ∧ Φ.le Φ' ∧ (∀ b, b < w.heap.size → Φ' b = Φ b) ∧ Fits Φ' w' ∧ Below w.heap.size w w' := by
      rintro e w' ⟨rfl, hb⟩
      refine ⟨_, Φ, rfl, ?_, Φ.le_refl, fun _ _ => rfl, fun b c h => ?_, hb⟩
      · exact rel_mk _
      · obtain ⟨E, fz, hw⟩ := hfit b c h
        exact ⟨E, fz, by rw [hb.block b (Array.getElem?_eq_some_iff.1 hw).1]; exact hw⟩
    have none : ∀ (a : Option Addr) (c : Nat), l = [] → Calls Tryz.prog 59 #[.slice a 0 c, .string ⟨sep.toArray⟩] w fun e w' => ∃ v Φ', e = .returned v ∧ AVRel Φ' (fun _ => none) [] v (.pv (cS (Lib.join l sep))) ∧ Φ.le Φ' ∧ (∀ b, b < w.heap.size → Φ' b = Φ b) ∧ Fits Φ' w' ∧ Below w.heap.size w w' := fun a c hl => by
      subst hl
      refine (Tryz.strings_Join_none a c ⟨sep.toArray⟩ w).mono fun e w' ⟨he, hw⟩ => fin e w' ⟨he, hw ▸ Below.refl _ _⟩
    have r0' : Rel Φ v0 (.sl (l.map encS)) := r0
    generalize hr : (l.map encS) = rows at r0'
    cases r0' with
    | sl0 => exact none _ _ (List.map_eq_nil_iff.1 hr)
    | slE a cap => exact none _ _ (List.map_eq_nil_iff.1 hr)
    | sl b off len cap sz rows f hlen hcap hsz2 hc hrel =>
      by_cases hl : l = []
      · subst hl; subst hr; simp at hlen; subst hlen; exact none _ _ rfl
      have hlr : l.length = len := by rw [← hlen, ← hr]; simp
      have hrow : ∀ (j : Nat) (s : Str), l[j]? = some s → rows[j]? = some [Cell.str s] := fun j s h => by rw [← hr]; simp [h, encS]
      have hs1 : sz = 1 := by
        cases l with
        | nil => exact absurd rfl hl
        | cons s l => exact (hsz2 [Cell.str s] (by rw [← hr]; simp [encS])).symm
      subst hs1
      have hcell : ∀ (j : Nat) (s : Str), l[j]? = some s → (Φ b).bind (·[off + j]?) = some (.string ⟨s.toArray⟩) := fun j s h => by
        have q1 := hc j 0 _ _ (hrow j s h) rfl
        have q2 := rel_strS (hrel j 0 _ _ (hrow j s h) rfl)
        rw [q2] at q1
        simpa using q1
      have hbk : b < w.heap.size := by
        cases l with
        | nil => exact absurd rfl hl
        | cons s l =>
          have := hcell 0 s rfl
          cases hb : Φ b with
          | none => rw [hb] at this; simp at this
          | some cs => obtain ⟨E, fz, hw⟩ := hfit b cs hb; exact (Array.getElem?_eq_some_iff.1 hw).1
      have key := Tryz.strings_Join b off cap (l.map fun s => (⟨s.toArray⟩ : ByteArray)) ⟨sep.toArray⟩ w (fun j x hx => by
        simp only [List.getElem?_map, Option.map_eq_some_iff] at hx
        obtain ⟨s, q1, rfl⟩ := hx
        exact fits_cell hfit (hcell j s q1)) hbk (by simpa using hn) (by simp; omega) (by simpa [Function.comp_def] using hj)
      have e2 : (l.map fun s => (⟨s.toArray⟩ : ByteArray)).length = len := by simpa using hlr
      rw [e2] at key
      have e3 : (l.map fun s => (⟨s.toArray⟩ : ByteArray)).map (fun x => x.data.toList) = l := by simp [Function.comp_def]
      refine key.mono fun e w' ⟨he, hb⟩ => fin e w' ⟨?_, hb⟩
      rw [he, e3]
theorem reverse_lent (zs : List Str) (hl : zs.length ≤ 9223372036854775807) : SCalls Tryz.prog 58 9 1 (zs.map encS) 0 (zs.map encS).length [] (fun _ _ => .tup []) (zs.reverse.map encS) where
  fn := ⟨_, Tryz.func58, by kernel_rfl, rfl⟩
  calls := fun Φ w vs b cap hfit hv0 hsz harg hΦ hblk => by
    obtain ⟨cur, g1, g2, g3, g4, g5, g6⟩ := hblk.cells rfl
    simp only at g1 g2 g4 g6
    have hvs : vs = #[.slice (some ⟨b, 0, none⟩) zs.length cap] := by
      apply Array.ext
      · exact hsz
      · intro i h2 h3
        have h4 : i = 0 := by simp at h3; omega
        subst h4
        rw [Array.getElem?_eq_getElem h2] at hv0
        simpa using hv0
    have hcell : ∀ (j : Nat) (s : Str), zs[j]? = some s → cur[j]? = some (encStr s) := fun j s h => by
      obtain ⟨v, q1, q2⟩ := g6 j 0 (encS s) (.str s) (by simp [h]) rfl
      rw [rel_strS q2] at q1
      simpa using q1
    have hlt := hblk.lt
    have hH : Go.Sort.Holds encStr w b 0 zs.toArray := fun j hj => by
      have hj' : j < zs.length := by simpa using hj
      refine ⟨?_, ?_⟩
      · rw [Nat.zero_add, cell_of_row w b j cur _ (0, 0) g1, hcell j zs[j] (List.getElem?_eq_getElem hj')]
        simp [hj']
      · simp [World.frozen?, g1]
    rw [hvs]
    refine (Tryz.slices_Reverse_string b 0 cap zs w hH hl).mono fun e w' ⟨he, n, hw⟩ => ?_
    have hh : ∀ c, w'.heap[c]? = if b = c then some (.cells (Go.Sort.putCells encStr 0 zs.reverse.toArray cur) 9 (0, 0)) else w.heap[c]? := fun c => by
      rw [hw]
      simp only [Go.Sort.putRow, Go.Sort.mapBlock, Go.Sort.ahead, Array.getElem?_modify]
      split
      · rename_i e1; subst e1
        rw [g1]; rfl
      · rfl
    refine ⟨.tuple #[], Φ, he, ⟨#[], rfl, rfl, fun j p h => by simp at h⟩, Φ.le_refl, fun _ _ => rfl, fun c x hc => ?_, ?_, ?_⟩
    · obtain ⟨E, fz, hx⟩ := hfit c x hc
      exact ⟨E, fz, by rw [hh, if_neg (fun e1 => by subst e1; rw [hΦ] at hc; cases hc)]; exact hx⟩
    · refine .inl ⟨rfl, Go.Sort.putCells encStr 0 zs.reverse.toArray cur, by rw [hh, if_pos rfl], by simpa using g2, g3, by simpa [Go.Sort.putCells] using g4, fun r hr => ?_, fun i j r x hi hj => ?_⟩
      · obtain ⟨s, _, rfl⟩ := List.mem_map.1 hr; rfl
      · have hi' : i < zs.length := by
          have := (List.getElem?_eq_some_iff.1 hi).1; simpa using this
        rw [List.getElem?_map, List.getElem?_eq_getElem (by simpa using hi')] at hi
        obtain rfl := Option.some.inj hi
        have hj0 : j = 0 := by
          cases j with
          | zero => rfl
          | succ j => simp [encS] at hj
        subst hj0
        obtain rfl := Option.some.inj hj
        have hic : i < cur.size := by simp at g2; omega
        have hir : i < zs.reverse.length := by simpa using hi'
        refine ⟨encStr zs.reverse[i], ?_, ?_⟩
        · simp [Go.Sort.putCells, hic, hi']
        · have := Rel.str (Φ := Φ) ⟨(zs.reverse[i]).toArray⟩
          simpa [encStr] using this
    · refine ⟨?_, ?_, ?_, ?_, fun c hc hne => by rw [hh, if_neg (Ne.symm hne)]⟩
      · rw [hw]; rfl
      · rw [hw]; rfl
      · rw [hw]; rfl
      · rw [hw]; simp [Go.Sort.putRow, Go.Sort.mapBlock, Go.Sort.ahead]
theorem hasPrefix_ok (s x : Str) (hs : s.length ≤ 9223372036854775807) : ACalls Tryz.prog 79 [cS s, cS x] (.pv (cB (decide ((s.length : Int) ≥ x.length) && decide (s.take x.length = x)))) := by
  refine ACalls.of_W (qs := [cB (decide ((s.length : Int) ≥ x.length) && decide (s.take x.length = x))]) [4] 18 Tryz.func79 (by kernel_rfl) rfl rfl rfl fun G => ?_
  refine W.initA (hw := ?_)
  repeat' (first | ((first | apply U_ | (apply Ug_; exact rfl; exact rfl) | (apply Ugq_; exact rfl; exact rfl)); (first | exact QX.Move TYok | exact QX.Asg TYok | exact QX.Bin TYok | exact QX.Pick TYok | exact QX.Len TYok | exact QX.Cut TYok); exact rfl) | apply RG.nil | apply Lex.nil | apply Then.n | apply Then.r | apply Then.x | apply InBlock.n | apply InBlock.r | apply InBlock.hit | (apply InBlock.miss; exact rfl) | apply W.seq | apply W.region | apply W.block | apply W.skip | apply W.ret | apply W.exit | (apply S_isnil TYok; exact rfl; exact rfl; exact rfl; exact Ev.auto; intro bn hnil) | (apply RG.gT; exact rfl; exact rfl; (first | assumption | decide)) | (apply RG.gF; exact rfl; exact rfl; (first | assumption | decide | (rw [ne_eq, Bool.not_eq_true]; assumption) | (rw [ne_eq, Bool.not_eq_false]; assumption)); exact rfl) | (refine W.condA (ht := fun hb => ?_) (hf := fun hb => ?_) <;> (try simp at hb) <;> (try (exfalso; omega))))
  exact Fin.ret ResL.auto
theorem isPre (s x : Str) : (decide ((s.length : Int) ≥ x.length) && decide (s.take x.length = x)) = decide (x <+: s) := by
  rw [Bool.eq_iff_iff, Bool.and_eq_true, decide_eq_true_iff, decide_eq_true_iff, decide_eq_true_iff]
  constructor
  · rintro ⟨_, h⟩; exact List.prefix_iff_eq_take.2 h.symm
  · intro h; exact ⟨by have := h.length_le; omega, (List.prefix_iff_eq_take.1 h).symm⟩
theorem cutPrefix0_ok (s x : Str) (hs : s.length ≤ 9223372036854775807) : ACalls Tryz.prog 63 [cS s, cS x] (.tup [cS (if x <+: s then s.drop x.length else s), cB (decide (x <+: s))]) := by
  have h1 := hasPrefix_ok s x hs
  rw [isPre] at h1
  have hl : x <+: s → x.length ≤ s.length := fun h => h.length_le
  by_cases hp : x <+: s
  · rw [decide_eq_true hp] at h1 ⊢
    rw [if_pos hp]
    have hl := hl hp
    refine ACalls.of_W (qs := [cS (s.drop x.length), cB true]) [4, 5] 15 Tryz.func63 (by kernel_rfl) rfl rfl rfl fun G => ?_
    refine W.initA (hw := ?_)
    repeat' (first | ((first | apply U_); (first | exact QX.Move TYok | exact QX.Asg TYok | exact QX.Un TYok | exact QX.Len TYok | exact QX.Cut TYok | (apply Q_call (h1); exact EvL.auto; exact rfl)); exact rfl) | apply RG.nil | apply Lex.nil | apply Then.n | apply Then.r | apply Then.x | apply InBlock.n | apply InBlock.r | apply InBlock.hit | (apply InBlock.miss; exact rfl) | apply W.seq | apply W.region | apply W.block | apply W.skip | apply W.ret | apply W.exit | (refine W.condA (ht := fun hb => ?_) (hf := fun hb => ?_) <;> (try simp at hb) <;> (try (exfalso; omega))))
    exact Fin.ret ResL.auto
  · rw [decide_eq_false hp] at h1 ⊢
    rw [if_neg hp]
    refine ACalls.of_W (qs := [cS s, cB false]) [4, 5] 15 Tryz.func63 (by kernel_rfl) rfl rfl rfl fun G => ?_
    refine W.initA (hw := ?_)
    repeat' (first | ((first | apply U_); (first | exact QX.Move TYok | exact QX.Asg TYok | exact QX.Un TYok | exact QX.Len TYok | exact QX.Cut TYok | (apply Q_call (h1); exact EvL.auto; exact rfl)); exact rfl) | apply RG.nil | apply Lex.nil | apply Then.n | apply Then.r | apply Then.x | apply InBlock.n | apply InBlock.r | apply InBlock.hit | (apply InBlock.miss; exact rfl) | apply W.seq | apply W.region | apply W.block | apply W.skip | apply W.ret | apply W.exit | (refine W.condA (ht := fun hb => ?_) (hf := fun hb => ?_) <;> (try simp at hb) <;> (try (exfalso; omega))))
    exact Fin.ret ResL.auto
theorem cutPrefix_ok (s x : Str) (hs : s.length ≤ 9223372036854775807) : ACalls Tryz.prog 48 [cS s, cS x] (.tup [cS (if x <+: s then s.drop x.length else s), cB (decide (x <+: s))]) := by
  have h1 := cutPrefix0_ok s x hs
  generalize (if x <+: s then s.drop x.length else s) = r at *
  generalize decide (x <+: s) = b at *
  refine ACalls.of_W (qs := [cS r, cB b]) [4, 5] 11 Tryz.func48 (by kernel_rfl) rfl rfl rfl fun G => ?_
  refine W.initA (hw := ?_)
  repeat' (first | ((first | apply U_); (first | exact QX.Move TYok | exact QX.Asg TYok | exact QX.Ext TYok | (apply Q_calld (h1); exact EvD.auto)); exact rfl) | apply RG.nil | apply Lex.nil | apply Then.n | apply Then.r | apply Then.x | apply InBlock.n | apply InBlock.r | apply InBlock.hit | (apply InBlock.miss; exact rfl) | apply W.seq | apply W.region | apply W.block | apply W.skip | apply W.ret | apply W.exit | (refine W.condA (ht := fun hb => ?_) (hf := fun hb => ?_) <;> (try simp at hb) <;> (try (exfalso; omega))))
  exact Fin.ret ResL.auto
end
section
open Go.RowKit
theorem flat_len {ps : List Str} (h : ∀ p ∈ ps, p.length ≤ 5) : ps.flatten.length ≤ 5 * ps.length := by
  induction ps with
  | nil => simp
  | cons p ps ih =>
    have h1 := h p (by simp)
    have h2 := ih fun q hq => h q (by simp [hq])
    simp only [List.flatten_cons, List.length_append, List.length_cons]
    omega
structure TextI (x : Int) (ps : List Str) (u : Int) : Prop where
  u0 : 0 ≤ u
  cnt : u * pk ps.length ≤ mag x
  some : 0 < u → decZ (mag x) = decZ u ++ ps.reverse.flatten
  none : u = 0 → decZ (mag x) = ps.reverse.flatten ∧ ps ≠ []
  small : ∀ p ∈ ps, p.length ≤ 5
  few : ps.length ≤ 75
theorem TextI.lt {x u : Int} {ps : List Str} (h : TextI x ps u) (hx : okZ x) (hu : 0 < u) : ps.length < 75 ∧ u < pw 60 := by
  have h1 := h.cnt
  have hp := pk_pos ps.length
  unfold okZ at hx
  constructor
  · by_cases hc : ps.length < 75
    · exact hc
    · have h2 := pk_mono (show 75 ≤ ps.length by omega)
      rw [pk75] at h2
      have h3 : 1 * pk ps.length ≤ u * pk ps.length := Int.mul_le_mul_of_nonneg_right (by omega) (by omega)
      omega
  · have h3 : u * 1 ≤ u * pk ps.length := Int.mul_le_mul_of_nonneg_left (by omega) (by omega)
    omega
theorem TextI.step {x u : Int} {ps : List Str} (h : TextI x ps u) (hx : okZ x) (hu : 0 < u) {s : Str} (hs : s = if 0 < u / 100000 then padZ (u % 100000) else decZ (u % 100000)) : TextI x (ps ++ [s]) (u / 100000) := by
  have h1 := h.lt hx hu
  have h2 := h.cnt
  have h3 := h.some hu
  have hp := pk_pos ps.length
  have hr := dec_short (r := u % 100000) (by omega)
  have e1 : (ps ++ [s]).reverse.flatten = s ++ ps.reverse.flatten := by simp
  refine ⟨by omega, ?_, fun hq => ?_, fun hq => ⟨?_, by simp⟩, fun p hm => ?_, by simp; omega⟩
  · rw [List.length_append, List.length_singleton, pk]
    have h4 : u / 100000 * (65536 * pk ps.length) = (u / 100000 * 65536) * pk ps.length := by grind
    have h5 : (u / 100000 * 65536) * pk ps.length ≤ u * pk ps.length := Int.mul_le_mul_of_nonneg_right (by omega) (by omega)
    omega
  · rw [e1, h3, dec_div (u := u) (by omega), hs, if_pos hq, List.append_assoc]
  · rw [e1, h3, hs, if_neg (by omega), show u % 100000 = u by omega]
  · rcases List.mem_append.1 hm with hm | hm
    · exact h.small p hm
    · rw [List.mem_singleton] at hm
      subst hm
      rw [hs]
      split
      · unfold padZ
        rw [List.length_append, Lib.repeatL_length]
        simp; omega
      · exact hr
theorem join_flat (l : List Str) : Lib.join l [] = l.flatten := by
  unfold Lib.join
  induction l with
  | nil => rfl
  | cons s l ih =>
    cases l with
    | nil => simp [List.intercalate]
    | cons t l =>
      simp [List.intercalate, List.intersperse] at ih ⊢
      exact ih
theorem rev_nil : ACalls Tryz.prog 58 [slS []] (.tup []) where
  fn := ⟨_, Tryz.func58, by kernel_rfl, rfl⟩
  calls := fun Φ w vs hfit harg => by
    obtain ⟨v, rfl, r0⟩ := args1 harg
    have r0' : Rel Φ v (.sl []) := r0
    have key : ∀ (a : Option Addr) (cap : Nat), Calls Tryz.prog 58 #[.slice a 0 cap] w (fun e w' => ∃ v Φ', e = .returned v ∧ AVRel Φ' (fun _ => none) [] v (.tup []) ∧ Φ.le Φ' ∧ (∀ b, b < w.heap.size → Φ' b = Φ b) ∧ Fits Φ' w' ∧ Below w.heap.size w w') := fun a cap =>
      (Tryz.slices_Reverse_string_empty a cap w).mono fun e w' ⟨he, hw⟩ => fin_flat hfit (v0 := .tuple #[]) (r := .tup []) ⟨#[], rfl, rfl, fun j p h => by simp at h⟩ he (hw ▸ Below.refl _ _)
    generalize hr : ([] : List (List Cell)) = rows at r0'
    cases r0' with
    | sl0 => exact key _ _
    | slE a cap => exact key _ _
    | sl b off len cap sz rows f hlen hcap hsz2 hc hrel => subst hr; simp at hlen; subst hlen; exact key _ _
theorem text_zero : GCalls Tryz.prog 2 powC 26 [zB 0] (.pv (cS (txtZ 0))) := by
  have h1 := right_yes okZ.zero
  have h2 := rev_nil
  have h3 := join_ok [] [] (by simp) (by simp [Lib.join_nil])
  have e2 : txtZ 0 = [48] := by rw [txtZ, if_neg (by omega), decZ, show (0 : Int).toNat = 0 from rfl, Lib.decDigits_one (by omega)]; rfl
  rw [e2]
  rw [zB0] at h1 ⊢
  refine GCalls.of_M TYok (qs := [cS [48]]) [.tmp 2] 51 Tryz.func26 (by kernel_rfl) rfl rfl rfl fun G hG => ?_
  refine W.initA (hw := ?_)
  repeat' (first | ((first | apply U_); (first | exact QX.Move TYok | exact QX.Asg TYok | exact QX.Fld TYok | exact QX.Ld TYok | exact QX.Bin TYok | exact QX.Un TYok | exact QX.Len TYok | exact QX.Ext TYok | (apply Q_call (h1); exact EvL.auto; exact rfl)); exact rfl) | refine SX.Lit TYok (h := ?_) | refine SX.App TYok (h := ?_) | refine SX.Box TYok (h := ?_) | apply RG.nil | apply Lex.nil | apply Then.n | apply Then.r | apply Then.x | apply InBlock.n | apply InBlock.r | apply InBlock.hit | (apply InBlock.miss; exact rfl) | apply W.seq | apply W.region | apply W.block | apply W.skip | apply W.ret | apply W.exit | (apply S_isnil TYok; exact rfl; exact rfl; exact rfl; exact Ev.auto; intro bn hnil) | (refine W.condA (ht := fun hb => ?_) (hf := fun hb => ?_) <;> (try simp at hb) <;> (try (exfalso; omega))))
  apply W.loopP (σ := Unit) 51 [1] (fun _ => True) (fun _ => [(3, (True, .pv (.one .slnil))), (4, (True, .pv (slI [])))]) (fun _ => [(1, ⟨24, 2, [[.int .i64 0, .sl []]]⟩)]) (fun _ => 0) (())
  case hp => repeat (first | exact Pick.nil | apply Pick.cons rfl)
  case h0 =>
    refine ⟨trivial, ?_⟩
    exact Le.auto
  case round =>
    rintro ⟨⟩ -
    apply W.norm (by repeat (first | exact App.nil | apply App.cons))
    repeat' (first | ((first | apply U_); (first | exact QX.Move TYok | exact QX.Asg TYok | exact QX.Fld TYok | exact QX.Ld TYok | exact QX.Bin TYok | exact QX.Un TYok | exact QX.Len TYok | exact QX.Ext TYok | (apply Q_calld (h2); exact EvD.auto) | (apply Q_calld (h3); exact EvD.auto)); exact rfl) | refine SX.Lit TYok (h := ?_) | refine SX.App TYok (h := ?_) | refine SX.Box TYok (h := ?_) | apply RG.nil | apply Lex.nil | apply Then.n | apply Then.r | apply Then.x | apply InBlock.n | apply InBlock.r | apply InBlock.hit | (apply InBlock.miss; exact rfl) | apply W.seq | apply W.region | apply W.block | apply W.skip | apply W.ret | apply W.exit | (apply S_isnil TYok; exact rfl; exact rfl; exact rfl; exact Ev.auto; intro bn hnil) | (refine W.condA (ht := fun hb => ?_) (hf := fun hb => ?_) <;> (try simp at hb) <;> (try (exfalso; omega))))
    exact FinM.ret ResM.auto
theorem text_more (x : Int) (hx : okZ x) (h0 : x ≠ 0) : GCalls Tryz.prog 2 powC 26 [zB x] (.pv (cS (txtZ x))) := by
  have h1 := right_yes hx
  have c1 := sgn_cases x
  have m0 := mag_nn x
  refine GCalls.of_M TYok (qs := [cS (txtZ x)]) [.tmp 2] 51 Tryz.func26 (by kernel_rfl) rfl rfl rfl fun G hG => ?_
  refine W.initA (hw := ?_)
  repeat' (first | ((first | apply U_); (first | exact QX.Move TYok | exact QX.Asg TYok | exact QX.Fld TYok | exact QX.Ld TYok | exact QX.Bin TYok | exact QX.Un TYok | exact QX.Len TYok | exact QX.Ext TYok | (apply Q_call (h1); exact EvL.auto; exact rfl)); exact rfl) | refine SX.Lit TYok (h := ?_) | refine SX.App TYok (h := ?_) | refine SX.Box TYok (h := ?_) | apply RG.nil | apply Lex.nil | apply Then.n | apply Then.r | apply Then.x | apply InBlock.n | apply InBlock.r | apply InBlock.hit | (apply InBlock.miss; exact rfl) | apply W.seq | apply W.region | apply W.block | apply W.skip | apply W.ret | apply W.exit | (apply S_isnil TYok; exact rfl; exact rfl; exact rfl; exact Ev.auto; intro bn hnil) | (refine W.condA (ht := fun hb => ?_) (hf := fun hb => ?_) <;> (try simp at hb) <;> (try (exfalso; omega))))
  refine W.weaken (Le.nilOwn (t := 3) (n := 36) (E := 9) (sz := 1) rfl) ?_
  apply W.loopP (σ := Int × List Str) 51 [] (fun (u, ps) => TextI x ps u) (fun (u, ps) => [(3, (True, .slc 36)), (4, (True, .pv (slI (digs u)))), (1, (True, .addr 1 0 0))]) (fun (u, ps) => [(1, ⟨24, 2, [[.int .i64 (sgn x), .sl ((digs (mag x)).map Lf.encI)]]⟩), (36, ⟨9, 1, ps.map encS⟩)]) (fun (u, ps) => u.toNat) ((mag x, []))
  case hp => repeat (first | exact Pick.nil | apply Pick.cons rfl)
  case h0 =>
    refine ⟨⟨m0, by simp [pk], fun _ => by simp, fun h => by omega, fun p hp => by simp at hp, by simp⟩, ?_⟩
    exact Le.auto
  case round =>
    rintro ⟨u, ps⟩ g1
    dsimp only at g1 ⊢
    have g2 := g1.u0
    apply W.norm (by repeat (first | exact App.nil | apply App.cons))
    by_cases hu : 0 < u
    · obtain ⟨g3, g4⟩ := g1.lt hx hu
      have hl := (digs_len g2).2 g4
      have hne : digs u ≠ [] := fun e => by rw [digs_nil g2] at e; omega
      have h2 := short_ok (digs u) 100000 (digs_norm _).dig (by omega) (by omega)
      rw [val_digs g2] at h2
      have hr : 0 ≤ u % 100000 ∧ u % 100000 < 100000 := by omega
      have h3 := itoa_ok (u % 100000) (by unfold i64B; omega)
      rw [itoa_decZ hr.1] at h3
      have hs5 := dec_short hr
      by_cases hq : 0 < u / 100000
      · have hqn : digs (u / 100000) ≠ [] := fun e => by rw [digs_nil (by omega)] at e; omega
        have h4 := repeat_ok [48] (5 - (decZ (u % 100000)).length) (by simp; try omega) (by omega)
        have e4 : ((5 - (decZ (u % 100000)).length : Nat) : Int) = 5 - ((decZ (u % 100000)).length : Int) := by omega
        rw [e4] at h4
        have g5 := g1.step hx hu (s := padZ (u % 100000)) (by rw [if_pos hq])
        have hpl : (Lib.repeatL [48] (5 - (decZ (u % 100000)).length)).length ≤ 5 := by rw [Lib.repeatL_length]; simp
        have ep : padZ (u % 100000) = Lib.repeatL [48] (5 - (decZ (u % 100000)).length) ++ decZ (u % 100000) := rfl
        repeat' (first | ((first | apply U_); (first | exact QX.Move TYok | exact QX.Asg TYok | exact QX.Fld TYok | exact QX.Ld TYok | exact QX.Bin TYok | exact QX.Un TYok | exact QX.Len TYok | exact QX.Ext TYok | (apply Q_calld (h2); exact EvD.auto) | (apply Q_callG hG (h3); exact EvL.auto; exact rfl) | (apply Q_calld (h4); exact EvD.auto)); exact rfl) | refine SX.Lit TYok (h := ?_) | refine SX.App TYok (h := ?_) | refine SX.Box TYok (h := ?_) | apply RG.nil | apply Lex.nil | apply Then.n | apply Then.r | apply Then.x | apply InBlock.n | apply InBlock.r | apply InBlock.hit | (apply InBlock.miss; exact rfl) | apply W.seq | apply W.region | apply W.block | apply W.skip | apply W.ret | apply W.exit | (apply S_isnil TYok; exact rfl; exact rfl; exact rfl; exact Ev.auto; intro bn hnil) | (refine W.condA (ht := fun hb => ?_) (hf := fun hb => ?_) <;> (try simp at hb) <;> (try (exfalso; omega))))
        all_goals first
          | exact absurd hb hqn
          | exact absurd hb hne
          | (refine ⟨(u / 100000, ps ++ [padZ (u % 100000)]), g5, ?_, by (try simp only); omega⟩
             simp only [← ep]
             exact Le.auto)
      · have hqn : digs (u / 100000) = [] := (digs_nil (by omega)).2 (by omega)
        have g5 := g1.step hx hu (s := decZ (u % 100000)) (by rw [if_neg hq])
        repeat' (first | ((first | apply U_); (first | exact QX.Move TYok | exact QX.Asg TYok | exact QX.Fld TYok | exact QX.Ld TYok | exact QX.Bin TYok | exact QX.Un TYok | exact QX.Len TYok | exact QX.Ext TYok | (apply Q_calld (h2); exact EvD.auto) | (apply Q_callG hG (h3); exact EvL.auto; exact rfl)); exact rfl) | refine SX.Lit TYok (h := ?_) | refine SX.App TYok (h := ?_) | refine SX.Box TYok (h := ?_) | apply RG.nil | apply Lex.nil | apply Then.n | apply Then.r | apply Then.x | apply InBlock.n | apply InBlock.r | apply InBlock.hit | (apply InBlock.miss; exact rfl) | apply W.seq | apply W.region | apply W.block | apply W.skip | apply W.ret | apply W.exit | (apply S_isnil TYok; exact rfl; exact rfl; exact rfl; exact Ev.auto; intro bn hnil) | (refine W.condA (ht := fun hb => ?_) (hf := fun hb => ?_) <;> (try simp at hb) <;> (try (exfalso; omega))))
        all_goals first
          | exact absurd hb hne
          | (exfalso; rw [hqn] at hb; simp at hb; done)
          | (refine ⟨(u / 100000, ps ++ [decZ (u % 100000)]), g5, ?_, by (try simp only); omega⟩
             exact Le.auto)
    · obtain rfl : u = 0 := by omega
      obtain ⟨g3, g4⟩ := g1.none rfl
      have hlr := reverse_lent ps (by have := g1.few; omega)
      have k1 : ps.map encS ≠ [] := fun e => g4 (List.map_eq_nil_iff.1 e)
      have k2 : (ps.reverse.map encS).length = (ps.map encS).length := by simp
      have hfl := flat_len (ps := ps.reverse) (fun p hp => g1.small p (List.mem_reverse.1 hp))
      have h4 := join_ok ps.reverse [] (by have := g1.few; simp; omega) (by rw [join_flat]; have := g1.few; simp at hfl ⊢; omega)
      rw [join_flat, ← g3] at h4
      have hd0 : digs (0 : Int) = [] := (digs_nil (by omega)).2 rfl
      have hlz : (decZ (mag x)).length ≤ 375 := by rw [g3]; have := g1.few; simp at hfl ⊢; omega
      have et : txtZ x = if sgn x = -1 then 45 :: decZ (mag x) else decZ (mag x) := by
        unfold txtZ
        by_cases hn : x < 0
        · rw [if_pos hn, if_pos (by omega), show -x = mag x by omega]
        · have e : mag x = x := by omega
          rw [if_neg hn, if_neg (by omega), e]
      repeat' (first | (refine W.weaken (Le.freeze1 (m := 36) rfl) ?_; apply W.region (id := 12)) | ((first | apply U_); (first | exact QX.Move TYok | exact QX.Asg TYok | exact QX.Fld TYok | exact QX.Ld TYok | exact QX.Bin TYok | exact QX.Un TYok | exact QX.Len TYok | exact QX.Ext TYok | (apply Q_calld (h4); exact EvD.auto)); exact rfl) | refine SX.Lit TYok (h := ?_) | refine SX.App TYok (h := ?_) | refine SX.Box TYok (h := ?_) | (apply S_calllend hlr; exact Ev.auto; exact rfl; exact k1; exact k2; exact rfl) | apply RG.nil | apply Lex.nil | apply Then.n | apply Then.r | apply Then.x | apply InBlock.n | apply InBlock.r | apply InBlock.hit | (apply InBlock.miss; exact rfl) | apply W.seq | apply W.region | apply W.block | apply W.skip | apply W.ret | apply W.exit | (apply S_isnil TYok; exact rfl; exact rfl; exact rfl; exact Ev.auto; intro bn hnil) | (refine W.condA (ht := fun hb => ?_) (hf := fun hb => ?_) <;> (try simp at hb) <;> (try (exfalso; omega))))
      · exfalso; rw [hd0] at hb; simp at hb
      · rw [et, if_pos hb]
        exact FinM.ret ResM.auto
      · rw [et, if_neg hb]
        exact FinM.ret ResM.auto
theorem text_ok (x : Int) (hx : okZ x) : GCalls Tryz.prog 2 powC 26 [zB x] (.pv (cS (txtZ x))) := by
  by_cases h : x = 0
  · subst h; exact text_zero
  · exact text_more x hx h
end
end Go.Proofs.YtldgkgfkdipdeaaGreatDoor
end
section
set_option linter.unusedVariables false
set_option linter.unusedSimpArgs false
set_option maxHeartbeats 8000000
namespace Go.Proofs.YtldgkgfkdipdeaaGreatDoor
open Lf Go
attribute [local irreducible] PureOp EffOp Ev RG W Then InBlock Lf.Fin nth App InitE Pick SubE EvL EvD EvP EvR ResL Lf.Lex SubR SubBR FinO FinM ResM ResD FinS val pw digs trimL
open Go.RowKit
def dg (c : UInt8) : Int := c.toNat - 48
def readL : Int → Str → Option Int
  | v, [] => some v
  | v, c :: r => if pw 60 ≤ v * 10 + dg c then none else readL (v * 10 + dg c) r
def DIGS : Str := [48, 49, 50, 51, 52, 53, 54, 55, 56, 57]
def cutF (s : Str) : Str := if [45] <+: s then s.drop 1 else s
def negF (s : Str) : Bool := decide ([45] <+: s)
def badF (t : Str) : Bool := decide (t = []) || decide (((nth t 0).toNat : Int) = 48) || decide (Lib.trimS t DIGS ≠ [])
def readF (s : Str) : Int × Int :=
  if s = [48] then (0, 0) else
  if badF (cutF s) = true then (0, 2) else
  match readL 0 (cutF s) with
  | none => (0, 6)
  | some v => (if negF s = true then -v else v, 0)
theorem readL_drop {v : Int} {t : Str} {k : Nat} (h : k < t.length) : readL v (t.drop k) = if pw 60 ≤ v * 10 + dg (nth t k) then none else readL (v * 10 + dg (nth t k)) (t.drop (k + 1)) := by
  rw [drop_nth h]; rfl
theorem read_ok (s : Str) (hs : s.length ≤ 9223372036854775807) (hd : badF (cutF s) = false → ∀ k, k < (cutF s).length → 0 ≤ dg (nth (cutF s) k) ∧ dg (nth (cutF s) k) ≤ 9) : ACalls Tryz.prog 17 [cS s] (.tup [zB (readF s).1, cI (readF s).2]) := by
  have htl : (cutF s).length ≤ 9223372036854775807 := by
    unfold cutF
    split
    · simp; omega
    · exact hs
  have h1 := cutPrefix_ok s [45] hs
  have h2 := trimS_ok (cutF s) DIGS htl (by decide) (by decide)
  replace h1 : ACalls Tryz.prog 48 [cS s, cS [45]] (.tup [cS (cutF s), cB (negF s)]) := h1
  replace h2 : ACalls Tryz.prog 49 [cS (cutF s), cS [48, 49, 50, 51, 52, 53, 54, 55, 56, 57]] (.pv (cS (Lib.trimS (cutF s) DIGS))) := h2
  by_cases hz : s = [48]
  · have e : readF s = (0, 0) := by rw [readF, if_pos hz]
    rw [e]
    refine ACalls.of_M TYok (qs := [zB 0, cI 0]) [.cell 2 24, .tmp 3] 56 Tryz.func17 (by kernel_rfl) rfl rfl rfl fun G => ?_
    refine W.initA (hw := ?_)
    repeat' (first | (exfalso; exact absurd hz ‹¬ s = [48]›) | ((first | apply U_ | (apply Ug_; exact rfl; exact rfl) | (apply Ugq_; exact rfl; exact rfl)); (first | exact QX.Move TYok | exact QX.Asg TYok | exact QX.Ld TYok | exact QX.Bin TYok | exact QX.Pick TYok | exact QX.Len TYok | exact QX.Idx TYok | exact QX.Idxs TYok | exact QX.Ext TYok | exact QX.Conv TYok | exact QX.Build TYok | (apply Q_calld (h1); exact EvD.auto) | (apply Q_calld (h2); exact EvD.auto)); exact rfl) | refine SX.Alloc TYok (h := ?_) | refine SX.Store TYok (h := ?_) | refine SX.Lit TYok (h := ?_) | apply RG.nil | apply Lex.nil | apply Then.n | apply Then.r | apply Then.x | apply InBlock.n | apply InBlock.r | apply InBlock.hit | (apply InBlock.miss; exact rfl) | apply W.seq | apply W.region | apply W.block | apply W.skip | apply W.ret | apply W.exit | (apply S_isnil TYok; exact rfl; exact rfl; exact rfl; exact Ev.auto; intro bn hnil) | (apply RG.gT; exact rfl; exact rfl; (first | assumption | decide)) | (apply RG.gF; exact rfl; exact rfl; (first | assumption | decide | (rw [ne_eq, Bool.not_eq_true]; assumption) | (rw [ne_eq, Bool.not_eq_false]; assumption)); exact rfl) | (refine W.condA (ht := fun hb => ?_) (hf := fun hb => ?_) <;> (try simp at hb) <;> (try (exfalso; omega))))
    exact FinM.ret (ResM.cell rfl rfl rfl rfl zeroSubZ (ResM.tmp rfl rfl PSub.rfl' ResM.nil))
  by_cases hbad : badF (cutF s) = true
  · have e : readF s = (0, 2) := by rw [readF, if_neg hz, if_pos hbad]
    rw [e]
    have hno : ¬ ((¬ cutF s = [] ∧ ¬ ((nth (cutF s) 0).toNat : Int) = 48) ∧ Lib.trimS (cutF s) DIGS = []) := fun ⟨⟨a, b⟩, c⟩ => by
      rw [badF, decide_eq_false a, decide_eq_false b, decide_eq_false (fun q => q c)] at hbad; cases hbad
    refine ACalls.of_M TYok (qs := [zB 0, cI 2]) [.cell 2 24, .tmp 3] 56 Tryz.func17 (by kernel_rfl) rfl rfl rfl fun G => ?_
    refine W.initA (hw := ?_)
    repeat' (first | (exfalso; exact absurd ‹s = [48]› hz) | (exfalso; exact hno (by assumption)) | ((first | apply U_ | (apply Ug_; exact rfl; exact rfl) | (apply Ugq_; exact rfl; exact rfl)); (first | exact QX.Move TYok | exact QX.Asg TYok | exact QX.Ld TYok | exact QX.Bin TYok | exact QX.Pick TYok | exact QX.Len TYok | exact QX.Idx TYok | exact QX.Idxs TYok | exact QX.Ext TYok | exact QX.Conv TYok | exact QX.Build TYok | (apply Q_calld (h1); exact EvD.auto) | (apply Q_calld (h2); exact EvD.auto) | (apply Q_indexs TYok; exact Ev.auto; exact Ev.auto; exact rfl; exact rfl; (intro hg; exact strAt (by simp at hg; exact List.length_pos_iff.2 hg)))); exact rfl) | refine SX.Alloc TYok (h := ?_) | refine SX.Store TYok (h := ?_) | refine SX.Lit TYok (h := ?_) | apply RG.nil | apply Lex.nil | apply Then.n | apply Then.r | apply Then.x | apply InBlock.n | apply InBlock.r | apply InBlock.hit | (apply InBlock.miss; exact rfl) | apply W.seq | apply W.region | apply W.block | apply W.skip | apply W.ret | apply W.exit | (apply S_isnil TYok; exact rfl; exact rfl; exact rfl; exact Ev.auto; intro bn hnil) | (apply RG.gT; exact rfl; exact rfl; (first | assumption | decide)) | (apply RG.gF; exact rfl; exact rfl; (first | assumption | decide | (rw [ne_eq, Bool.not_eq_true]; assumption) | (rw [ne_eq, Bool.not_eq_false]; assumption)); exact rfl) | (refine W.condA (ht := fun hb => ?_) (hf := fun hb => ?_) <;> (try simp at hb) <;> (try (exfalso; omega))))
    exact FinM.ret (ResM.cell rfl rfl rfl rfl zeroSubZ (ResM.tmp rfl rfl PSub.rfl' ResM.nil))
  have hgn : (cutF s = [] ∨ ((nth (cutF s) 0).toNat : Int) = 48) ∨ ¬ Lib.trimS (cutF s) DIGS = [] → False := fun h => hbad (by
    rw [badF]
    rcases h with (h | h) | h
    · rw [decide_eq_true h]; rfl
    · rw [decide_eq_true h, Bool.or_true]; rfl
    · rw [decide_eq_true h, Bool.or_true])
  have hd' := hd (by simpa using hbad)
  have e : readF s = (match readL 0 (cutF s) with | none => (0, 6) | some v => (if negF s = true then -v else v, 0)) := by rw [readF, if_neg hz, if_neg hbad]
  generalize hrl : readL 0 (cutF s) = rl at e
  refine ACalls.of_M TYok (qs := [zB (readF s).1, cI (readF s).2]) [.cell 2 24, .tmp 3] 56 Tryz.func17 (by kernel_rfl) rfl rfl rfl fun G => ?_
  refine W.initA (hw := ?_)
  repeat' (first | (exfalso; exact absurd ‹s = [48]› hz) | (exfalso; exact hgn (by assumption)) | ((first | apply U_ | (apply Ug_; exact rfl; exact rfl) | (apply Ugq_; exact rfl; exact rfl)); (first | exact QX.Move TYok | exact QX.Asg TYok | exact QX.Ld TYok | exact QX.Bin TYok | exact QX.Pick TYok | exact QX.Len TYok | exact QX.Idx TYok | exact QX.Idxs TYok | exact QX.Ext TYok | exact QX.Conv TYok | exact QX.Build TYok | (apply Q_calld (h1); exact EvD.auto) | (apply Q_calld (h2); exact EvD.auto) | (apply Q_indexs TYok; exact Ev.auto; exact Ev.auto; exact rfl; exact rfl; (intro hg; exact strAt (by simp at hg; exact List.length_pos_iff.2 hg))) | (apply Q_bytes TYok; exact Ev.auto; exact rfl; exact rfl; exact rfl; exact rfl; exact rfl; exact rfl)); exact rfl) | refine SX.Alloc TYok (h := ?_) | refine SX.Store TYok (h := ?_) | refine SX.Lit TYok (h := ?_) | apply RG.nil | apply Lex.nil | apply Then.n | apply Then.r | apply Then.x | apply InBlock.n | apply InBlock.r | apply InBlock.hit | (apply InBlock.miss; exact rfl) | apply W.seq | apply W.region | apply W.block | apply W.skip | apply W.ret | apply W.exit | (apply S_isnil TYok; exact rfl; exact rfl; exact rfl; exact Ev.auto; intro bn hnil) | (apply RG.gT; exact rfl; exact rfl; (first | assumption | decide)) | (apply RG.gF; exact rfl; exact rfl; (first | assumption | decide | (rw [ne_eq, Bool.not_eq_true]; assumption) | (rw [ne_eq, Bool.not_eq_false]; assumption)); exact rfl) | (refine W.condA (ht := fun hb => ?_) (hf := fun hb => ?_) <;> (try simp at hb) <;> (try (exfalso; omega))))
  generalize cutF s = t at *
  refine W.weaken (Le.sub (t := 6) (p' := .one (.sl [])) rfl PSub.nil') ?_
  apply W.loopP (σ := Nat × Int) 56 [2, 5, 31, 32] (fun (k, v) => k ≤ t.length ∧ 0 ≤ v ∧ v < pw 60 ∧ readL 0 t = readL v (t.drop k)) (fun (k, v) => [(6, (True, .pv (slI (digs v)))), (33, vI k)]) (fun _ => [(2, ⟨24, 2, [[.int .i64 0, .slnil]]⟩)]) (fun (k, v) => t.length - k) ((0, 0))
  case hp => repeat (first | exact Pick.nil | apply Pick.cons rfl)
  case h0 =>
    refine ⟨⟨by simp, by simp, pw_pos 60, by simp⟩, ?_⟩
    dsimp only
    rw [digs_zero]
    exact Le.auto
  case round =>
    rintro ⟨k, v⟩ ⟨k1, k2, k3, k4⟩
    apply W.norm (by repeat (first | exact App.nil | apply App.cons))
    by_cases hk : k < t.length
    · obtain ⟨d0, d9⟩ := hd' k hk
      rw [readL_drop hk] at k4
      have hp60 : pw 60 < pw 61 := pw_lt (by omega)
      have lv : (digs v).length ≤ 60 := (digs_len k2).2 k3
      have c1 := mul_ok (digs v) [10] (digs_norm v).dig (Dig.cons (by omega) Dig.nil) (by omega) (by simp)
      rw [val_digs k2, val_one] at c1
      have c2 := trim_ok [dg (nth t k)] (by simp)
      rw [trim_digs (Dig.cons (by omega) Dig.nil), val_one] at c2
      have e61 : pw 61 = 1048576 * pw 60 := by rw [pw_succ]
      have l1 : (digs (v * 10)).length ≤ 1000000 := by
        have : (digs (v * 10)).length ≤ 61 := (digs_len (by omega)).2 (by omega)
        omega
      have l2 : (digs (dg (nth t k))).length ≤ 1000000 := by
        have : (digs (dg (nth t k))).length ≤ 1 := (digs_len d0).2 (by rw [pw_succ]; have := pw_pos 0; omega)
        omega
      have c3 := add_ok (digs (v * 10)) (digs (dg (nth t k))) (digs_norm _).dig (digs_norm _).dig l1 l2
      rw [val_digs (by omega), val_digs d0] at c3
      have hlen := digs_len (x := v * 10 + dg (nth t k)) (by omega) (n := 60)
      have hdg : dg (nth t k) = ((nth t k).toNat : Int) - 48 := rfl
      simp only [hdg] at c2 c3 k4 hlen d0 d9
      repeat' (first | ((first | apply U_ | (apply Ug_; exact rfl; exact rfl) | (apply Ugq_; exact rfl; exact rfl)); (first | (apply Q_litD TYok; (repeat (first | exact EvR.nil | apply EvR.cons Ev.auto)); exact rfl; exact rfl; exact rfl; exact rfl; exact rfl; exact rfl) | exact QX.Move TYok | exact QX.Asg TYok | exact QX.Ld TYok | exact QX.Bin TYok | exact QX.Pick TYok | exact QX.Len TYok | exact QX.Idx TYok | exact QX.Idxs TYok | exact QX.Ext TYok | exact QX.Conv TYok | exact QX.Build TYok | (apply Q_calld (c1); exact EvD.auto) | (apply Q_calld (c2); exact EvD.auto) | (apply Q_calld (c3); exact EvD.auto)); exact rfl) | refine SX.Alloc TYok (h := ?_) | refine SX.Store TYok (h := ?_) | refine SX.Lit TYok (h := ?_) | apply RG.nil | apply Lex.nil | apply Then.n | apply Then.r | apply Then.x | apply InBlock.n | apply InBlock.r | apply InBlock.hit | (apply InBlock.miss; exact rfl) | apply W.seq | apply W.region | apply W.block | apply W.skip | apply W.ret | apply W.exit | (apply S_isnil TYok; exact rfl; exact rfl; exact rfl; exact Ev.auto; intro bn hnil) | (apply RG.gT; exact rfl; exact rfl; (first | assumption | decide)) | (apply RG.gF; exact rfl; exact rfl; (first | assumption | decide | (rw [ne_eq, Bool.not_eq_true]; assumption) | (rw [ne_eq, Bool.not_eq_false]; assumption)); exact rfl) | (refine W.condA (ht := fun hb => ?_) (hf := fun hb => ?_) <;> (try simp at hb) <;> (try (exfalso; omega))))
      · have hr : rl = none := by rw [← hrl, k4, if_pos (by omega)]
        have e' : readF s = (0, 6) := by rw [e, hr]
        rw [e']
        exact FinM.ret (ResM.cell rfl rfl rfl rfl zeroSubZ (ResM.tmp rfl rfl PSub.rfl' ResM.nil))
      · refine ⟨(k + 1, v * 10 + (((nth t k).toNat : Int) - 48)), ⟨by omega, by omega, by omega, ?_⟩, ?_, by (try simp only); omega⟩
        · rw [k4, if_neg (by omega)]
        · exact Le.auto
    · have hkt : k = t.length := by omega
      have hr : rl = some v := by rw [← hrl, k4, hkt, List.drop_length]; rfl
      have e' : readF s = (if negF s = true then -v else v, 0) := by rw [e, hr]
      have lv : (digs v).length ≤ 60 := (digs_len k2).2 k3
      have g1 := signed_ok (-1) (digs v) (digs_norm v).dig (by omega) (-v) (.inr (.inl rfl)) (by rw [val_digs k2]; omega)
      have g2 := signed_ok 1 (digs v) (digs_norm v).dig (by omega) v (.inl rfl) (by rw [val_digs k2]; omega)
      rw [e']
      generalize negF s = nb at *
      cases nb
      · rw [if_neg (by decide)]
        repeat' (first | ((first | apply U_ | (apply Ug_; exact rfl; exact rfl) | (apply Ugq_; exact rfl; exact rfl)); (first | exact QX.Move TYok | exact QX.Asg TYok | exact QX.Ld TYok | exact QX.Bin TYok | exact QX.Pick TYok | exact QX.Len TYok | exact QX.Idx TYok | exact QX.Idxs TYok | exact QX.Ext TYok | exact QX.Conv TYok | exact QX.Build TYok | (apply Q_calld (g1); exact EvD.auto) | (apply Q_calld (g2); exact EvD.auto)); exact rfl) | refine SX.Alloc TYok (h := ?_) | refine SX.Store TYok (h := ?_) | refine SX.Lit TYok (h := ?_) | apply RG.nil | apply Lex.nil | apply Then.n | apply Then.r | apply Then.x | apply InBlock.n | apply InBlock.r | apply InBlock.hit | (apply InBlock.miss; exact rfl) | apply W.seq | apply W.region | apply W.block | apply W.skip | apply W.ret | apply W.exit | (apply S_isnil TYok; exact rfl; exact rfl; exact rfl; exact Ev.auto; intro bn hnil) | (apply RG.gT; exact rfl; exact rfl; (first | assumption | decide)) | (apply RG.gF; exact rfl; exact rfl; (first | assumption | decide | (rw [ne_eq, Bool.not_eq_true]; assumption) | (rw [ne_eq, Bool.not_eq_false]; assumption)); exact rfl) | (refine W.condA (ht := fun hb => ?_) (hf := fun hb => ?_) <;> (try simp at hb) <;> (try (exfalso; omega))))
        exact FinM.ret ResM.auto
      · rw [if_pos rfl]
        repeat' (first | ((first | apply U_ | (apply Ug_; exact rfl; exact rfl) | (apply Ugq_; exact rfl; exact rfl)); (first | exact QX.Move TYok | exact QX.Asg TYok | exact QX.Ld TYok | exact QX.Bin TYok | exact QX.Pick TYok | exact QX.Len TYok | exact QX.Idx TYok | exact QX.Idxs TYok | exact QX.Ext TYok | exact QX.Conv TYok | exact QX.Build TYok | (apply Q_calld (g1); exact EvD.auto) | (apply Q_calld (g2); exact EvD.auto)); exact rfl) | refine SX.Alloc TYok (h := ?_) | refine SX.Store TYok (h := ?_) | refine SX.Lit TYok (h := ?_) | apply RG.nil | apply Lex.nil | apply Then.n | apply Then.r | apply Then.x | apply InBlock.n | apply InBlock.r | apply InBlock.hit | (apply InBlock.miss; exact rfl) | apply W.seq | apply W.region | apply W.block | apply W.skip | apply W.ret | apply W.exit | (apply S_isnil TYok; exact rfl; exact rfl; exact rfl; exact Ev.auto; intro bn hnil) | (apply RG.gT; exact rfl; exact rfl; (first | assumption | decide)) | (apply RG.gF; exact rfl; exact rfl; (first | assumption | decide | (rw [ne_eq, Bool.not_eq_true]; assumption) | (rw [ne_eq, Bool.not_eq_false]; assumption)); exact rfl) | (refine W.condA (ht := fun hb => ?_) (hf := fun hb => ?_) <;> (try simp at hb) <;> (try (exfalso; omega))))
        exact FinM.ret ResM.auto
theorem dropWhile_nil {α : Type} {p : α → Bool} : ∀ {l : List α}, l.dropWhile p = [] → ∀ x ∈ l, p x = true
  | [], _, x, hx => by cases hx
  | y :: r, h, x, hx => by
    rw [List.dropWhile_cons] at h
    split at h
    · rename_i hy
      rcases List.mem_cons.1 hx with rfl | hx
      · exact hy
      · exact dropWhile_nil h x hx
    · cases h
theorem dropWhile_all {α : Type} {p : α → Bool} : ∀ {l : List α}, (∀ x ∈ l, p x = true) → l.dropWhile p = []
  | [], _ => rfl
  | y :: r, h => by rw [List.dropWhile_cons, if_pos (h y (by simp))]; exact dropWhile_all fun x hx => h x (by simp [hx])
theorem trimS_nil {l cs : Str} : Lib.trimS l cs = [] ↔ ∀ x ∈ l, cs.contains x = true := by
  unfold Lib.trimS Lib.trimLeftS Lib.trimRightS
  constructor
  · intro h x hx
    by_cases hc : cs.contains x = true
    · exact hc
    · exfalso
      have h1 := dropWhile_nil h
      have h2 : ∀ l : Str, (∃ y ∈ l, ¬ cs.contains y = true) → ∃ y ∈ l.dropWhile (cs.contains ·), ¬ cs.contains y = true := by
        intro l
        induction l with
        | nil => rintro ⟨y, hy, _⟩; cases hy
        | cons z r ih =>
          rintro ⟨y, hy, hn⟩
          rw [List.dropWhile_cons]
          split
          · rename_i hz
            rcases List.mem_cons.1 hy with rfl | hy
            · exact absurd hz hn
            · exact ih ⟨y, hy, hn⟩
          · exact ⟨y, hy, hn⟩
      obtain ⟨y, hy, hn⟩ := h2 l.reverse ⟨x, by simpa using hx, hc⟩
      exact hn (h1 y (by simpa using hy))
  · intro h
    rw [dropWhile_all (l := l.reverse) fun x hx => h x (by simpa using hx)]
    rfl
theorem dig_dg : ∀ c ∈ DIGS, 0 ≤ dg c ∧ dg c ≤ 9 := by decide
theorem bad_no {t : Str} (h : badF t = false) : ∀ k, k < t.length → 0 ≤ dg (nth t k) ∧ dg (nth t k) ≤ 9 := fun k hk => by
  unfold badF at h
  simp only [Bool.or_eq_false_iff, decide_eq_false_iff_not, ne_eq, Decidable.not_not] at h
  have := (trimS_nil.1 h.2) (nth t k) (nth_mem hk)
  exact dig_dg _ (by simpa using this)
theorem readF_ok (s : Str) (hs : s.length ≤ 9223372036854775807) : ACalls Tryz.prog 17 [cS s] (.tup [zB (readF s).1, cI (readF s).2]) := read_ok s hs bad_no
theorem chd_dg (c : UInt8) (h : 0 ≤ dg c ∧ dg c ≤ 9) : chd (dg c).toNat = c := by
  unfold dg at h ⊢
  rw [show (((c.toNat : Int) - 48).toNat) = c.toNat - 48 by omega]
  apply UInt8.toNat_inj.1
  simp only [chd, UInt8.toNat_ofNat']
  omega
theorem cut_neg (t : Str) : cutF (45 :: t) = t ∧ negF (45 :: t) = true := by
  have h : [45] <+: (45 :: t) := ⟨t, rfl⟩
  exact ⟨by rw [cutF, if_pos h]; rfl, decide_eq_true h⟩
theorem decZ_snoc {v : Int} {c : UInt8} (h : 0 < v) (hc : 0 ≤ dg c ∧ dg c ≤ 9) : decZ (v * 10 + dg c) = decZ v ++ [c] := by
  unfold decZ
  rw [dec_ge (u := (v * 10 + dg c).toNat) (by omega), show (v * 10 + dg c).toNat / 10 = v.toNat by omega, show (v * 10 + dg c).toNat % 10 = (dg c).toNat by omega, chd_dg c hc]
theorem readL_dec : ∀ (t : Str) (v w : Int), 0 < v → (∀ c ∈ t, 0 ≤ dg c ∧ dg c ≤ 9) → readL v t = some w → decZ w = decZ v ++ t ∧ 0 < w ∧ (v < pw 60 → w < pw 60)
  | [], v, w, h, _, hr => by
    rw [readL] at hr
    cases hr
    exact ⟨by simp, h, id⟩
  | c :: r, v, w, h, hd, hr => by
    have hc := hd c (by simp)
    rw [readL] at hr
    split at hr
    · cases hr
    · rename_i hlt
      obtain ⟨h1, h2, h3⟩ := readL_dec r (v * 10 + dg c) w (by omega) (fun x hx => hd x (by simp [hx])) hr
      rw [decZ_snoc h hc] at h1
      exact ⟨by rw [h1, List.append_assoc]; rfl, h2, fun _ => h3 (by omega)⟩
theorem digs_of_bad {t : Str} (h : badF t = false) : (∀ c ∈ t, 0 ≤ dg c ∧ dg c ≤ 9) ∧ ∃ c r, t = c :: r ∧ 0 < dg c := by
  have hb := h
  unfold badF at h
  simp only [Bool.or_eq_false_iff, decide_eq_false_iff_not, ne_eq, Decidable.not_not] at h
  have hall : ∀ c ∈ t, 0 ≤ dg c ∧ dg c ≤ 9 := fun c hc => dig_dg _ (by simpa using trimS_nil.1 h.2 c hc)
  refine ⟨hall, ?_⟩
  cases t with
  | nil => exact absurd rfl h.1.1
  | cons c r =>
    refine ⟨c, r, rfl, ?_⟩
    have h1 := hall c (by simp)
    have h2 : ¬ ((c.toNat : Int) = 48) := by
      have := h.1.2
      rwa [show nth (c :: r) 0 = c by simp [nth]] at this
    unfold dg at h1 ⊢; omega
theorem readL_digs {t : Str} {w : Int} (h : badF t = false) (hr : readL 0 t = some w) : decZ w = t ∧ 0 < w ∧ w < pw 60 := by
  obtain ⟨hall, c, r, rfl, hc⟩ := digs_of_bad h
  have h9 := (hall c (by simp)).2
  rw [readL] at hr
  split at hr
  · cases hr
  · rename_i hlt
    obtain ⟨h1, h2, h3⟩ := readL_dec r (0 * 10 + dg c) w (by omega) (fun x hx => hall x (by simp [hx])) hr
    refine ⟨?_, h2, h3 (by omega)⟩
    rw [h1, show (0 : Int) * 10 + dg c = dg c by omega]
    have : decZ (dg c) = [c] := by
      unfold decZ
      rw [Go.Lib.decDigits_one (by omega)]
      exact congrArg (fun x => [x]) (chd_dg c ⟨by omega, h9⟩)
    rw [this]; rfl
/-- what Read says of any text: 0 and the number whose text it is, or 2 or 6 and zero -/
theorem readF_cases (s : Str) : ((readF s).2 = 0 ∧ okZ (readF s).1 ∧ txtZ (readF s).1 = s) ∨ (((readF s).2 = 2 ∨ (readF s).2 = 6) ∧ (readF s).1 = 0) := by
  unfold readF
  by_cases h0 : s = [48]
  · rw [if_pos h0]
    refine .inl ⟨rfl, by unfold okZ; rw [show mag 0 = 0 from rfl]; exact pw_pos 60, ?_⟩
    rw [h0]; exact Go.Lib.decDigits_one (i := 0) (by decide)
  · rw [if_neg h0]
    by_cases hb : badF (cutF s) = true
    · rw [if_pos hb]; exact .inr ⟨.inl rfl, rfl⟩
    · rw [if_neg hb]
      cases hr : readL 0 (cutF s) with
      | none => exact .inr ⟨.inr rfl, rfl⟩
      | some v =>
        obtain ⟨h1, h2, h3⟩ := readL_digs (by simpa using hb) hr
        refine .inl ⟨rfl, ?_, ?_⟩
        · unfold okZ mag
          dsimp only
          split <;> split <;> omega
        · dsimp only
          by_cases hn : [45] <+: s
          · obtain ⟨r, rfl⟩ := hn
            have hc := cut_neg r
            rw [show [45] ++ r = 45 :: r from rfl] at *
            rw [hc.1] at h1
            rw [hc.2, if_pos rfl, txtZ, if_pos (by omega), Int.neg_neg, h1]
          · have e1 : negF s = false := decide_eq_false hn
            have e2 : cutF s = s := if_neg hn
            rw [e2] at h1
            rw [e1, if_neg (by decide), txtZ, if_neg (by omega), h1]
theorem rsameB_ok (s s' : Int) (a b : List Int) (hl : a.length ≤ 1000000) (hl' : b.length ≤ 1000000) : ACalls Tryz.prog 12 [aB s a, aB s' b] (.pv (cB (decide (s = s') && decide (a = b)))) := by
  by_cases h0 : s = s' ∧ a.length = b.length
  case neg =>
    have e : (decide (s = s') && decide (a = b)) = false := by
      rw [Bool.and_eq_false_iff, decide_eq_false_iff_not, decide_eq_false_iff_not]
      by_cases hs : s = s'
      · exact .inr fun e => h0 ⟨hs, by rw [e]⟩
      · exact .inl hs
    rw [e]
    refine ACalls.of_W (qs := [cB false]) [4] 38 Tryz.func12 (by kernel_rfl) rfl rfl rfl fun G => ?_
    refine W.initA (hw := ?_)
    repeat' (first | (exfalso; omega) | ((first | apply U_ | (apply Ug_; exact rfl; exact rfl) | (apply Ugq_; exact rfl; exact rfl) | apply Lex.u | (apply Lex.g; exact rfl; exact rfl) | (apply Lex.gq; exact rfl; exact rfl)); (first | exact QX.Move TYok | exact QX.Asg TYok | exact QX.Fld TYok | exact QX.Ld TYok | exact QX.Bin TYok | exact QX.Pick TYok | exact QX.Len TYok | exact QX.Idx TYok); exact rfl) | refine SX.Box TYok (h := ?_) | apply RG.nil | apply Lex.nil | apply Then.n | apply Then.r | apply Then.x | apply InBlock.n | apply InBlock.r | apply InBlock.hit | (apply InBlock.miss; exact rfl) | apply W.seq | apply W.region | apply W.block | apply W.skip | apply W.ret | apply W.exit | (apply RG.gT; exact rfl; exact rfl; (first | assumption | decide)) | (apply RG.gF; exact rfl; exact rfl; (first | assumption | decide | (rw [ne_eq, Bool.not_eq_true]; assumption) | (rw [ne_eq, Bool.not_eq_false]; assumption)); exact rfl) | (apply W.draw2 (id := 6) [0, 1, 0, 7, 15, 0, 32, 0, 224, 480, 1023] [[2], [27], [5], [28, 29], [30], [3], [32], [5], [33, 34], [35], [31, 36]] 11 [(27, 4), (28, 134217728), (29, 32), (30, 805306368), (31, 1073741824), (32, 8), (33, 4294967296), (34, 32), (35, 25769803776), (36, 34359738368), (37, 70866960384)] mixed (by kernel_rfl) rfl rfl) | (refine W.condA (ht := fun hb => ?_) (hf := fun hb => ?_) <;> (try simp at hb) <;> (try (exfalso; omega))))
    exact Fin.ret ResL.auto
  obtain ⟨rfl, hab⟩ := h0
  rw [decide_eq_true rfl, Bool.true_and]
  refine ACalls.of_W (qs := [cB (decide (a = b))]) [4] 38 Tryz.func12 (by kernel_rfl) rfl rfl rfl fun G => ?_
  refine W.initA (hw := ?_)
  repeat' (first | ((first | apply U_ | (apply Ug_; exact rfl; exact rfl) | (apply Ugq_; exact rfl; exact rfl) | apply Lex.u | (apply Lex.g; exact rfl; exact rfl) | (apply Lex.gq; exact rfl; exact rfl)); (first | exact QX.Move TYok | exact QX.Asg TYok | exact QX.Fld TYok | exact QX.Ld TYok | exact QX.Bin TYok | exact QX.Pick TYok | exact QX.Len TYok | exact QX.Idx TYok); exact rfl) | refine SX.Box TYok (h := ?_) | apply RG.nil | apply Lex.nil | apply Then.n | apply Then.r | apply Then.x | apply InBlock.n | apply InBlock.r | apply InBlock.hit | (apply InBlock.miss; exact rfl) | apply W.seq | apply W.region | apply W.block | apply W.skip | apply W.ret | apply W.exit | (apply RG.gT; exact rfl; exact rfl; (first | assumption | decide)) | (apply RG.gF; exact rfl; exact rfl; (first | assumption | decide | (rw [ne_eq, Bool.not_eq_true]; assumption) | (rw [ne_eq, Bool.not_eq_false]; assumption)); exact rfl) | (apply W.draw2 (id := 6) [0, 1, 0, 7, 15, 0, 32, 0, 224, 480, 1023] [[2], [27], [5], [28, 29], [30], [3], [32], [5], [33, 34], [35], [31, 36]] 11 [(27, 4), (28, 134217728), (29, 32), (30, 805306368), (31, 1073741824), (32, 8), (33, 4294967296), (34, 32), (35, 25769803776), (36, 34359738368), (37, 70866960384)] mixed (by kernel_rfl) rfl rfl) | (refine W.condA (ht := fun hb => ?_) (hf := fun hb => ?_) <;> (try simp at hb) <;> (try (exfalso; omega))))
  apply W.loopP (σ := Nat) 38 [2, 3] (fun k => k ≤ a.length ∧ a.take k = b.take k) (fun k => [(5, vI k)]) (fun _ => [(2, ⟨24, 2, [[.int .i64 s, .sl (a.map Lf.encI)]]⟩), (3, ⟨24, 2, [[.int .i64 s, .sl (b.map Lf.encI)]]⟩)]) (fun k => a.length - k) (0)
  case hp => repeat (first | exact Pick.nil | apply Pick.cons rfl)
  case h0 =>
    refine ⟨by simp, ?_⟩
    exact Le.auto
  case round =>
    rintro k ⟨g1, g2⟩
    apply W.norm (by repeat (first | exact App.nil | apply App.cons))
    repeat' (first | ((first | apply U_ | (apply Ug_; exact rfl; exact rfl) | (apply Ugq_; exact rfl; exact rfl) | apply Lex.u | (apply Lex.g; exact rfl; exact rfl) | (apply Lex.gq; exact rfl; exact rfl)); (first | exact QX.Move TYok | exact QX.Asg TYok | exact QX.Fld TYok | exact QX.Ld TYok | exact QX.Bin TYok | exact QX.Pick TYok | exact QX.Len TYok | exact QX.Idx TYok); exact rfl) | refine SX.Box TYok (h := ?_) | apply RG.nil | apply Lex.nil | apply Then.n | apply Then.r | apply Then.x | apply InBlock.n | apply InBlock.r | apply InBlock.hit | (apply InBlock.miss; exact rfl) | apply W.seq | apply W.region | apply W.block | apply W.skip | apply W.ret | apply W.exit | (apply RG.gT; exact rfl; exact rfl; (first | assumption | decide)) | (apply RG.gF; exact rfl; exact rfl; (first | assumption | decide | (rw [ne_eq, Bool.not_eq_true]; assumption) | (rw [ne_eq, Bool.not_eq_false]; assumption)); exact rfl) | (apply W.draw2 (id := 6) [0, 1, 0, 7, 15, 0, 32, 0, 224, 480, 1023] [[2], [27], [5], [28, 29], [30], [3], [32], [5], [33, 34], [35], [31, 36]] 11 [(27, 4), (28, 134217728), (29, 32), (30, 805306368), (31, 1073741824), (32, 8), (33, 4294967296), (34, 32), (35, 25769803776), (36, 34359738368), (37, 70866960384)] mixed (by kernel_rfl) rfl rfl) | (refine W.condA (ht := fun hb => ?_) (hf := fun hb => ?_) <;> (try simp at hb) <;> (try (exfalso; omega))))
    · rw [decide_eq_false (fun e => by subst e; omega)]
      exact Fin.ret ResL.auto
    · refine ⟨k + 1, ⟨by omega, ?_⟩, ?_, by omega⟩
      · rw [take_nth (by omega), take_nth (by omega), g2, hb]
      · exact Le.auto
    · obtain rfl : k = a.length := by omega
      rw [List.take_length, hab, List.take_length] at g2
      rw [decide_eq_true g2]
      exact Fin.ret ResL.auto
theorem rsameZ_ok (x y : Int) (hx : okZ x) (hy : okZ y) : ACalls Tryz.prog 12 [zB x, zB y] (.pv (cB (decide (x = y)))) := by
  have h := rsameB_ok (sgn x) (sgn y) (digs (mag x)) (digs (mag y)) (by have := num_len hx; omega) (by have := num_len hy; omega)
  rw [show (decide (sgn x = sgn y) && decide (digs (mag x) = digs (mag y))) = decide (x = y) by
    rw [Bool.eq_iff_iff, Bool.and_eq_true, decide_eq_true_iff, decide_eq_true_iff, decide_eq_true_iff]
    exact ⟨fun h => num_inj h.1 h.2, fun h => by rw [h]; exact ⟨rfl, rfl⟩⟩] at h
  exact h
theorem ok_of {x : Int} (h : mag x < pw 10) : okZ x := by unfold okZ; have := pw_lt (show 10 < 60 by omega); omega
theorem rightL_ok (s : Int) (l : List Int) (hl : l.length ≤ 9223372036854775807) : ACalls Tryz.prog 21 [aB s l] (.pv (cB (rightB s l))) := by
  refine ACalls.of_W (qs := [cB (rightB s l)]) [2] 49 Tryz.func21 (by kernel_rfl) rfl rfl rfl fun G => ?_
  refine W.initA (hw := ?_)
  repeat' (first | ((first | apply U_ | (apply Ug_; exact rfl; exact rfl) | (apply Ugq_; exact rfl; exact rfl)); (first | exact QX.Move TYok | exact QX.Asg TYok | exact QX.Fld TYok | exact QX.Ld TYok | exact QX.Bin TYok | exact QX.Pick TYok | exact QX.Len TYok | exact QX.Idx TYok); exact rfl) | refine SX.Box TYok (h := ?_) | apply RG.nil | apply Lex.nil | apply Then.n | apply Then.r | apply Then.x | apply InBlock.n | apply InBlock.r | apply InBlock.hit | (apply InBlock.miss; exact rfl) | apply W.seq | apply W.region | apply W.block | apply W.skip | apply W.ret | apply W.exit | (apply S_isnil TYok; exact rfl; exact rfl; exact rfl; exact Ev.auto; intro bn hnil) | (apply RG.gT; exact rfl; exact rfl; (first | assumption | decide)) | (apply RG.gF; exact rfl; exact rfl; (first | assumption | decide | (rw [ne_eq, Bool.not_eq_true]; assumption) | (rw [ne_eq, Bool.not_eq_false]; assumption)); exact rfl) | (refine W.condA (ht := fun hb => ?_) (hf := fun hb => ?_) <;> (try simp at hb) <;> (try (exfalso; omega))))
  apply W.loopP (σ := Nat) 49 [1, 3, 10, 11] (fun k => k ≤ l.length ∧ l.all digB = (l.drop k).all digB) (fun k => [(12, vI k)]) (fun _ => [(1, ⟨24, 2, [[.int .i64 s, .sl (l.map Lf.encI)]]⟩)]) (fun k => l.length - k) (0)
  case hp => repeat (first | exact Pick.nil | apply Pick.cons rfl)
  case h0 =>
    refine ⟨by simp, ?_⟩
    exact Le.auto
  case round =>
    rintro k ⟨g1, g2⟩
    apply W.norm (by repeat (first | exact App.nil | apply App.cons))
    by_cases hk : k < l.length
    · have e : l.all digB = (digB (nth l k) && (l.drop (k + 1)).all digB) := by rw [g2, drop_nth hk, List.all_cons]
      repeat' (first | ((first | apply U_ | (apply Ug_; exact rfl; exact rfl) | (apply Ugq_; exact rfl; exact rfl)); (first | exact QX.Move TYok | exact QX.Asg TYok | exact QX.Fld TYok | exact QX.Ld TYok | exact QX.Bin TYok | exact QX.Pick TYok | exact QX.Len TYok | exact QX.Idx TYok); exact rfl) | refine SX.Box TYok (h := ?_) | apply RG.nil | apply Lex.nil | apply Then.n | apply Then.r | apply Then.x | apply InBlock.n | apply InBlock.r | apply InBlock.hit | (apply InBlock.miss; exact rfl) | apply W.seq | apply W.region | apply W.block | apply W.skip | apply W.ret | apply W.exit | (apply S_isnil TYok; exact rfl; exact rfl; exact rfl; exact Ev.auto; intro bn hnil) | (apply RG.gT; exact rfl; exact rfl; (first | assumption | decide)) | (apply RG.gF; exact rfl; exact rfl; (first | assumption | decide | (rw [ne_eq, Bool.not_eq_true]; assumption) | (rw [ne_eq, Bool.not_eq_false]; assumption)); exact rfl) | (refine W.condA (ht := fun hb => ?_) (hf := fun hb => ?_) <;> (try simp at hb) <;> (try (exfalso; omega))))
      · have e2 : rightB s l = false := by
          rw [rightB, e, show digB (nth l k) = false by
            simp only [digB, Bool.and_eq_false_iff, decide_eq_false_iff_not]; omega]; rfl
        rw [e2]
        exact Fin.ret ResL.auto
      · refine ⟨k + 1, ⟨by omega, ?_⟩, ?_, by omega⟩
        · rw [e, show digB (nth l k) = true by
            simp only [digB, Bool.and_eq_true, decide_eq_true_iff]; omega]; rfl
        · exact Le.auto
    · obtain rfl : k = l.length := by omega
      have e : l.all digB = true := by rw [g2, List.drop_length]; rfl
      by_cases h0 : l.length = 0
      · have e2 : rightB s l = decide (s = 0) := by rw [rightB, e, if_pos h0]; rfl
        repeat' (first | ((first | apply U_ | (apply Ug_; exact rfl; exact rfl) | (apply Ugq_; exact rfl; exact rfl)); (first | exact QX.Move TYok | exact QX.Asg TYok | exact QX.Fld TYok | exact QX.Ld TYok | exact QX.Bin TYok | exact QX.Pick TYok | exact QX.Len TYok | exact QX.Idx TYok); exact rfl) | refine SX.Box TYok (h := ?_) | apply RG.nil | apply Lex.nil | apply Then.n | apply Then.r | apply Then.x | apply InBlock.n | apply InBlock.r | apply InBlock.hit | (apply InBlock.miss; exact rfl) | apply W.seq | apply W.region | apply W.block | apply W.skip | apply W.ret | apply W.exit | (apply S_isnil TYok; exact rfl; exact rfl; exact rfl; exact Ev.auto; intro bn hnil) | (apply RG.gT; exact rfl; exact rfl; (first | assumption | decide)) | (apply RG.gF; exact rfl; exact rfl; (first | assumption | decide | (rw [ne_eq, Bool.not_eq_true]; assumption) | (rw [ne_eq, Bool.not_eq_false]; assumption)); exact rfl) | (refine W.condA (ht := fun hb => ?_) (hf := fun hb => ?_) <;> (try simp at hb) <;> (try (exfalso; omega))))
        · rw [e2]
          exact Fin.ret ResL.auto
        · exact absurd (List.length_eq_zero_iff.1 h0) hb
      · have e2 : rightB s l = ((decide (s = 1) || decide (s = -1)) && decide ((l.length : Int) ≤ 60) && !decide (nth l ((l.length : Int) - 1).toNat = 0)) := by
          rw [rightB, e, if_neg h0, show ((l.length : Int) - 1).toNat = l.length - 1 by omega, show decide (l.length ≤ 60) = decide ((l.length : Int) ≤ 60) from decide_eq_decide.2 (by omega)]; rfl
        repeat' (first | ((first | apply U_ | (apply Ug_; exact rfl; exact rfl) | (apply Ugq_; exact rfl; exact rfl)); (first | exact QX.Move TYok | exact QX.Asg TYok | exact QX.Fld TYok | exact QX.Ld TYok | exact QX.Bin TYok | exact QX.Pick TYok | exact QX.Len TYok | exact QX.Idx TYok); exact rfl) | refine SX.Box TYok (h := ?_) | apply RG.nil | apply Lex.nil | apply Then.n | apply Then.r | apply Then.x | apply InBlock.n | apply InBlock.r | apply InBlock.hit | (apply InBlock.miss; exact rfl) | apply W.seq | apply W.region | apply W.block | apply W.skip | apply W.ret | apply W.exit | (apply S_isnil TYok; exact rfl; exact rfl; exact rfl; exact Ev.auto; intro bn hnil) | (apply RG.gT; exact rfl; exact rfl; (first | assumption | decide)) | (apply RG.gF; exact rfl; exact rfl; (first | assumption | decide | (rw [ne_eq, Bool.not_eq_true]; assumption) | (rw [ne_eq, Bool.not_eq_false]; assumption)); exact rfl) | (refine W.condA (ht := fun hb => ?_) (hf := fun hb => ?_) <;> (try simp at hb) <;> (try (exfalso; omega))))
        · exact absurd (by rw [hb]; rfl) h0
        · rw [e2]
          exact Fin.ret ResL.auto
theorem quo_pos {x y q r P : Int} (h : x = y * q + r) (hy : 0 < y) (h0 : 0 ≤ r) (h1 : r < y) (hx : -P < x ∧ x < P) : -P < q ∧ q < P := by
  constructor
  · by_cases hc : -P < q
    · exact hc
    · exfalso
      have e : (y - 1) * (-(q + 1)) = -(y * q) - y + q + 1 := by grind
      have := Int.mul_nonneg (show 0 ≤ y - 1 by omega) (show 0 ≤ -(q + 1) by omega)
      omega
  · by_cases hc : q < P
    · exact hc
    · exfalso
      have e : (y - 1) * q = y * q - q := by grind
      have := Int.mul_nonneg (show 0 ≤ y - 1 by omega) (show 0 ≤ q by omega)
      omega
theorem okZ_quo {x y : Int} (hx : okZ x) (h0 : y ≠ 0) : okZ (quoZ x y) := by
  have h1 := quo_rem x y
  have h2 := rem_rng (x := x) h0
  refine okZ.of ?_
  by_cases hp : 0 < y
  · exact quo_pos h1 hp (h2.1 hp).1 (h2.1 hp).2 hx.lt
  · have hn : y < 0 := by omega
    have := hx.lt
    refine quo_pos (x := -x) (y := -y) (r := -(remZ x y)) ?_ (by omega) (by have := h2.2 hn; omega) (by have := h2.2 hn; omega) (by omega)
    have e : -y * quoZ x y = -(y * quoZ x y) := by grind
    omega
theorem okZ_rem {x y : Int} (hy : okZ y) (h0 : y ≠ 0) : okZ (remZ x y) := by
  have h2 := rem_rng (x := x) h0
  have := hy.lt
  refine okZ.of ?_
  by_cases hp : 0 < y
  · have := h2.1 hp; omega
  · have := h2.2 (by omega); omega
end Go.Proofs.YtldgkgfkdipdeaaGreatDoor
end
section
set_option linter.unusedVariables false
set_option linter.unusedSimpArgs false
namespace Lf
open Go
def PN (A : St) : List Nat → List (Nat × (Prop × AV)) → List Nat → Prop
  | [], E, ns => E = [] ∧ ns = []
  | t :: ts, E, ns => PN A ts E ns ∨ ∃ q v E' ns', lk A.env t = some (q, v) ∧ E = (t, (q, v)) :: E' ∧ PN A ts E' ns' ∧
      match v with
      | .addr n _ _ | .slc n | .mp n | .pin n _ _ _ => ns = n :: ns'
      | .itr d n => ns = d :: n :: ns'
      | _ => ns = ns'
def PB (A : St) : List Nat → List (Nat × Blk) → Prop
  | [], bl => bl = []
  | n :: ns, bl => ∃ B bl', lk A.blks n = some B ∧ bl = (n, B) :: bl' ∧ PB A ns bl'
section
variable {A : St} {ts ns : List Nat} {t : Nat} {q : Prop} {E : List (Nat × (Prop × AV))} {bl : List (Nat × Blk)}
theorem PN.nil : PN A [] [] [] := ⟨rfl, rfl⟩
theorem PN.p {p : PV} (h : lk A.env t = some (q, .pv p)) (hr : PN A ts E ns) : PN A (t :: ts) ((t, (q, .pv p)) :: E) ns := .inr ⟨_, _, _, _, h, rfl, hr, rfl⟩
theorem PN.a {n i off : Nat} (h : lk A.env t = some (q, .addr n i off)) (hr : PN A ts E ns) : PN A (t :: ts) ((t, (q, .addr n i off)) :: E) (n :: ns) := .inr ⟨_, _, _, _, h, rfl, hr, rfl⟩
def NR (l m : List Cell) : Prop := l = m
theorem NR.nil {l : List Cell} (h : l = []) : NR l [] := h
theorem NR.cons {l r m : List Cell} {c : Cell} (h : l = c :: r) (h' : NR r m) : NR l (c :: m) := by
  have e : r = m := h'
  subst e; exact h
theorem PN.pa {l l' : List Cell} (h : lk A.env t = some (q, .pv (.agg l))) (hl : NR l l') (hr : PN A ts E ns) : PN A (t :: ts) ((t, (q, .pv (.agg l'))) :: E) ns := by
  have e : l = l' := hl
  subst e; exact PN.p h hr
theorem PN.po {c : Cell} (h : lk A.env t = some (q, .pv (.one c))) (hr : PN A ts E ns) : PN A (t :: ts) ((t, (q, .pv (.one c))) :: E) ns := PN.p h hr
theorem PB.nil : PB A [] [] := rfl
theorem PB.one {n T sz : Nat} {B : Blk} {row row' : List Cell} (h : lk A.blks n = some B) (hT : B.E = T) (hs : B.sz = sz) (hrow : B.rows = [row]) (hr' : NR row row') (hr : PB A ns bl) : PB A (n :: ns) ((n, ⟨T, sz, [row']⟩) :: bl) := by
  have e : row = row' := hr'
  subst e
  obtain ⟨a, b, c⟩ := B
  simp only at hT hs hrow
  subst hT; subst hs; subst hrow
  exact ⟨_, _, h, rfl, hr⟩
end
theorem PB.get {A : St} : ∀ {ns : List Nat} {bl : List (Nat × Blk)}, PB A ns bl → ∀ n ∈ ns, lk bl n = lk A.blks n
  | [], _, _, n, hn => by cases hn
  | m :: ns, _, ⟨B, bl', h1, rfl, h2⟩, n, hn => by
    rw [lk_cons]
    split
    · rename_i e; subst e; exact h1.symm
    · rename_i e
      rcases List.mem_cons.1 hn with rfl | hn
      · exact absurd rfl e
      · exact PB.get h2 n hn
theorem PB.sub {A : St} : ∀ {ns : List Nat} {bl : List (Nat × Blk)}, PB A ns bl → SubB A bl
  | [], _, h => by
    have e : _ = [] := h
    rw [e]; trivial
  | m :: ns, _, ⟨B, bl', h1, rfl, h2⟩ => ⟨h1, PB.sub h2⟩
theorem PN.sub {A : St} {bl : List (Nat × Blk)} : ∀ {ts : List Nat} {E : List (Nat × (Prop × AV))} {ns : List Nat}, PN A ts E ns → (∀ n ∈ ns, lk bl n = lk A.blks n) → SubE A bl E
  | [], _, _, h, _ => by
    obtain ⟨rfl, _⟩ := (h : _ = [] ∧ _ = [])
    trivial
  | t :: ts, E, ns, h, hn => by
    rcases (h : PN A ts E ns ∨ _) with h | ⟨q, v, E', ns', h1, rfl, h2, h3⟩
    · exact PN.sub h hn
    · refine ⟨⟨h1, ?_⟩, PN.sub h2 fun n hm => hn n ?_⟩
      · cases v with
        | pv p => trivial
        | tup l => trivial
        | top => trivial
        | addr n i off => exact hn n (by rw [show ns = n :: ns' from h3]; simp)
        | slc n => exact hn n (by rw [show ns = n :: ns' from h3]; simp)
        | mp n => exact hn n (by rw [show ns = n :: ns' from h3]; simp)
        | pin n b c f => exact hn n (by rw [show ns = n :: ns' from h3]; simp)
        | itr d n => exact ⟨hn d (by rw [show ns = d :: n :: ns' from h3]; simp), hn n (by rw [show ns = d :: n :: ns' from h3]; simp)⟩
      · cases v with
        | pv p => rw [show ns = ns' from h3]; exact hm
        | tup l => rw [show ns = ns' from h3]; exact hm
        | top => rw [show ns = ns' from h3]; exact hm
        | addr m i off => rw [show ns = m :: ns' from h3]; exact List.mem_cons_of_mem _ hm
        | slc m => rw [show ns = m :: ns' from h3]; exact List.mem_cons_of_mem _ hm
        | mp m => rw [show ns = m :: ns' from h3]; exact List.mem_cons_of_mem _ hm
        | pin m b c f => rw [show ns = m :: ns' from h3]; exact List.mem_cons_of_mem _ hm
        | itr d m => rw [show ns = d :: m :: ns' from h3]; exact List.mem_cons_of_mem _ (List.mem_cons_of_mem _ hm)
theorem W.purgeR {P : Program} {G : Ghost} {Q : Exit → St → Prop} {n id : Nat} {env : List (Nat × (Prop × AV))} {bl0 : List (Nat × Blk)} {ops : Array Oper} {late : Bool} {y : Code} {ts ns : List Nat} {E : List (Nat × (Prop × AV))} {bl : List (Nat × Blk)} (tab : List (Nat × List Nat)) (ht : lk tab id = some ts)
    (hp : PN (St.mk n env bl0) ts E ns) (hb : PB (St.mk n env bl0) ns bl) (hw : W P G (.region id ops late) (Then (W P G y Q) Q) (St.mk n E bl)) : W P G (.seq (.region id ops late) y) Q (St.mk n env bl0) :=
  W.seq (W.weaken (Le.mk (B := St.mk n E bl) rfl (PN.sub hp (PB.get hb)) (PB.sub hb)) hw)
attribute [irreducible] PN PB NR
end Lf
end
section
set_option linter.unusedVariables false
set_option linter.unusedSimpArgs false
namespace Lf
open Go Go.RowKit
abbrev EnvO := List (Option (Nat × (Prop × AV)))
/-- The values that have come up, pushed in the text's order; a store has none. -/
def eO (L : Nat → Bool) : Nat → EnvO → Env → Env
  | _, [], env => env
  | k, some x :: r, env => eO L (k + 1) r (if L k then x :: env else env)
  | k, none :: r, env => eO L (k + 1) r env
theorem eO_congr {L L' : Nat → Bool} {t : Nat} : ∀ (vals : EnvO) (k : Nat) (env env' : Env), lk env t = lk env' t → (∀ j x, vals[j]? = some (some x) → x.1 = t → L (k + j) = L' (k + j)) → lk (eO L k vals env) t = lk (eO L' k vals env') t
  | [], k, env, env', h, _ => h
  | none :: r, k, env, env', h, hj => by
    rw [eO, eO]
    exact eO_congr r (k + 1) _ _ h fun j y hy he => by have := hj (j + 1) y (by simpa using hy) he; rwa [show k + (j + 1) = k + 1 + j by omega] at this
  | some x :: r, k, env, env', h, hj => by
    rw [eO, eO]
    refine eO_congr r (k + 1) _ _ ?_ fun j y hy he => by have := hj (j + 1) y (by simpa using hy) he; rwa [show k + (j + 1) = k + 1 + j by omega] at this
    obtain ⟨t', e⟩ := x
    by_cases hx : t' = t
    · have := hj 0 (t', e) rfl hx
      simp only [Nat.add_zero] at this
      rw [this]
      split
      · rw [lk_cons, lk_cons, if_pos hx, if_pos hx]
      · exact h
    · split <;> split <;> simp [lk_cons, hx, h]
theorem eO_none : ∀ (vals : EnvO) (k : Nat) (env : Env), eO (fun _ => false) k vals env = env
  | [], _, _ => rfl
  | none :: r, k, env => by rw [eO]; exact eO_none r (k + 1) env
  | some x :: r, k, env => by rw [eO]; exact eO_none r (k + 1) env
theorem eO_past {m : Nat} : ∀ (r : EnvO) (k' : Nat) (env : Env), m ≤ k' → eO (fun j => decide (j < m)) k' r env = env
  | [], _, _, _ => rfl
  | none :: r, k', env, h => by rw [eO]; exact eO_past r _ _ (by omega)
  | some z :: r, k', env, h => by rw [eO, if_neg (by simp; omega)]; exact eO_past r _ _ (by omega)
theorem eO_lt : ∀ (vals : EnvO) (k i : Nat) (env : Env) (x : Nat × (Prop × AV)), vals[i]? = some (some x) → eO (fun j => decide (j < k + i + 1)) k vals env = x :: eO (fun j => decide (j < k + i)) k vals env
  | [], k, i, env, x, h => by simp at h
  | y :: r, k, 0, env, x, h => by
    simp at h; subst h
    rw [eO, eO, eO_past r (k + 1) _ (by omega), eO_past r (k + 1) _ (by omega), if_pos (by simp), if_neg (by simp)]
  | none :: r, k, i + 1, env, x, h => by
    rw [eO, eO]
    have := eO_lt r (k + 1) i env x (by simpa using h)
    rw [show k + 1 + i + 1 = k + (i + 1) + 1 by omega, show k + 1 + i = k + (i + 1) by omega] at this
    exact this
  | some y :: r, k, i + 1, env, x, h => by
    rw [eO, eO, if_pos (by simp; omega), if_pos (by simp)]
    have := eO_lt r (k + 1) i (y :: env) x (by simpa using h)
    rw [show k + 1 + i + 1 = k + (i + 1) + 1 by omega, show k + 1 + i = k + (i + 1) by omega] at this
    exact this
theorem eO_shift (L : Nat → Bool) : ∀ (vals : EnvO) (k : Nat) (env : Env), eO L (k + 1) vals env = eO (fun j => L (j + 1)) k vals env
  | [], _, _ => rfl
  | none :: r, k, env => by rw [eO, eO, eO_shift L r]
  | some x :: r, k, env => by rw [eO, eO, eO_shift L r]
def descB : Effs → Bool
  | [] => true
  | (e, (d, _)) :: r => r.all (fun y => !Nat.beq y.2.1 d || Nat.blt y.1 e) && descB r
theorem bL_congr {L L' : Nat → Bool} {bl : List (Nat × Blk)} {k : Nat} : ∀ effs : Effs, (∀ x ∈ effs, x.2.1 = k → L x.1 = L' x.1) → lk (bL L effs bl) k = lk (bL L' effs bl) k
  | [], _ => rfl
  | (e, (d, B)) :: r, h => by
    have ih := bL_congr (L := L) (L' := L') (bl := bl) (k := k) r fun x hx => h x (List.mem_cons_of_mem _ hx)
    rw [bL, bL]
    by_cases hd : d = k
    · rw [h (e, (d, B)) (by simp) hd]
      cases L' e
      · exact ih
      · simp only [cond_true, lk_cons, ih]
    · cases L e <;> cases L' e <;> simp only [cond_true, cond_false, lk_cons, if_neg hd, ih]
theorem bL_first {L : Nat → Bool} {bl : List (Nat × Blk)} {i d : Nat} {B : Blk} : ∀ effs : Effs, descB effs = true → (i, (d, B)) ∈ effs → L i = true → (∀ x ∈ effs, x.2.1 = d → i < x.1 → L x.1 = false) → (∀ x ∈ effs, x.1 = i → x = (i, (d, B))) → lk (bL L effs bl) d = some B
  | (e, (d', B')) :: r, hd, hm, hi, hl, hu => by
    rw [bL]
    by_cases he : e = i
    · have := hu (e, (d', B')) (by simp) he
      cases this
      rw [hi, cond_true, lk_cons, if_pos rfl]
    · have hm' : (i, (d, B)) ∈ r := by
        rcases List.mem_cons.1 hm with h | h
        · cases h; exact absurd rfl he
        · exact h
      rw [descB, Bool.and_eq_true] at hd
      have ih := bL_first (L := L) (bl := bl) r hd.2 hm' hi (fun x hx => hl x (List.mem_cons_of_mem _ hx)) (fun x hx => hu x (List.mem_cons_of_mem _ hx))
      cases hL : L e with
      | false => exact ih
      | true =>
        rw [cond_true, lk_cons]
        by_cases hdd : d' = d
        · exfalso
          have h1 := List.all_eq_true.1 hd.1 _ hm'
          rw [hdd] at h1
          simp only [Nat.beq_refl, Bool.not_true, Bool.false_or] at h1
          have h2 := hl (e, (d', B')) (by simp) hdd (blt_lt h1)
          rw [hL] at h2; cases h2
        · rw [if_neg hdd]; exact ih
/-- effect e has come, or comes only behind i -/
def gdE (ms : List Nat) (i my e : Nat) : Bool := bitN my e || bitN (ms.getD e 0) i
def cleanN (g : Nat → Bool) : Effs → Nat → Bool
  | [], _ => true
  | (e, (d, _)) :: r, k => (!Nat.beq d k || g e) && cleanN g r k
theorem cleanN_at {g : Nat → Bool} {k : Nat} : ∀ {effs : Effs}, cleanN g effs k = true → ∀ x ∈ effs, x.2.1 = k → g x.1 = true
  | (e, (d, B)) :: r, h, x, hx, hk => by
    rw [cleanN, Bool.and_eq_true] at h
    rcases List.mem_cons.1 hx with rfl | hx
    · have := h.1
      simp only at hk
      rw [hk] at this
      simpa using this
    · exact cleanN_at h.2 x hx hk
theorem cleanN_no {g : Nat → Bool} {k : Nat} : ∀ {effs : Effs}, cleanN g effs k = false → ∃ x ∈ effs, x.2.1 = k ∧ g x.1 = false
  | (e, (d, B)) :: r, h => by
    rw [cleanN, Bool.and_eq_false_iff] at h
    rcases h with h | h
    · simp only [Bool.or_eq_false_iff, Bool.not_eq_false'] at h
      exact ⟨_, List.mem_cons_self .., Nat.eq_of_beq_eq_true h.1, h.2⟩
    · obtain ⟨x, h1, h2⟩ := cleanN_no h
      exact ⟨x, List.mem_cons_of_mem _ h1, h2⟩
def filN (p : Nat → Bool) : List (Nat × Blk) → List (Nat × Blk)
  | [] => []
  | (k, B) :: r => bif p k then (k, B) :: filN p r else filN p r
theorem lk_filN {p : Nat → Bool} {k : Nat} : ∀ l : List (Nat × Blk), lk (filN p l) k = if p k = true then lk l k else none
  | [] => by simp [filN, lk]
  | (t, B) :: r => by
    have ih := lk_filN (p := p) (k := k) r
    rw [filN]
    by_cases h : t = k
    · subst h
      cases hp : p t <;> simp [ih, lk_cons, hp]
    · cases hp : p t <;> simp [ih, lk_cons, h]
/-- What an operation can lean on: the blocks that are as they will be. -/
def bM (ms : List Nat) (i my : Nat) (effs : Effs) (bl : List (Nat × Blk)) : List (Nat × Blk) := filN (cleanN (gdE ms i my) effs) (bL (bitN my) effs bl)
theorem lk_bM {ms : List Nat} {i my : Nat} {effs : Effs} {bl : List (Nat × Blk)} {k : Nat} : lk (bM ms i my effs bl) k = if cleanN (gdE ms i my) effs k = true then lk (bL (bitN my) effs bl) k else none := lk_filN _
def chainB (ms : List Nat) (effs : Effs) : Bool := effs.all fun x => effs.all fun y => !Nat.beq x.2.1 y.2.1 || !Nat.blt x.1 y.1 || bitN (ms.getD y.1 0) x.1
structure EffsS (ms : List Nat) (effs : Effs) : Prop where
  ix : ∀ e d B d' B', (e, (d, B)) ∈ effs → (e, (d', B')) ∈ effs → d = d' ∧ B = B'
  desc : descB effs = true
  chain : ∀ x ∈ effs, ∀ y ∈ effs, x.2.1 = y.2.1 → x.1 < y.1 → bitN (ms.getD y.1 0) x.1 = true
theorem EffsS.of {ms : List Nat} {effs : Effs} (h1 : ndB (effs.map (·.1)) = true) (h2 : descB effs = true) (h3 : chainB ms effs = true) : EffsS ms effs where
  ix e d B d' B' a b := by have := ndB_inj h1 _ a _ b rfl; cases this; exact ⟨rfl, rfl⟩
  desc := h2
  chain x hx y hy hd hlt := by
    have := List.all_eq_true.1 (List.all_eq_true.1 h3 x hx) y hy
    rw [hd, Nat.beq_refl] at this
    have hb : Nat.blt x.1 y.1 = true := by simp [Nat.blt_eq]; exact hlt
    rw [hb] at this
    simpa using this
def orderOkS (l : List Oper) (ms : List Nat) (tss : List (List Nat)) : Bool :=
  (List.range l.length).all fun y =>
    let o := l.getD y default
    let my := ms.getD y 0
    (deps o).all (fun j => Nat.blt j y) &&
    Nat.beq my ((deps o).foldl (fun s j => s ||| 2 ^ j ||| ms.getD j 0) 0) &&
    ((tss.getD y []).all (fun t => (looks l.toArray o).any (Nat.beq t) || unwr l t) && (List.range y).all (fun x => !clash l.toArray (l.getD x default) o || my.testBit x))
section
variable {l : List Oper} {ms : List Nat} {tss : List (List Nat)}
theorem orderOkS_at (h : orderOkS l ms tss = true) {y : Nat} {o : Oper} (hy : l[y]? = some o) :
    (∀ j ∈ deps o, j < y) ∧ (∀ j, (ms.getD y 0).testBit j = true → ∃ d ∈ deps o, j = d ∨ (ms.getD d 0).testBit j = true) ∧
    (∀ t ∈ tss.getD y [], t ∈ looks l.toArray o ∨ ∀ (j : Nat) (ox : Oper), l[j]? = some ox → ox.dst ≠ some t) ∧ ∀ x ox, x < y → l[x]? = some ox → clash l.toArray ox o = true → (ms.getD y 0).testBit x = true := by
  have hlt := (List.getElem?_eq_some_iff.1 hy).1
  have h0 := List.all_eq_true.1 h y (List.mem_range.2 hlt)
  have hg : l.getD y default = o := by simp [List.getD, hy]
  simp only [hg, Bool.and_eq_true] at h0
  obtain ⟨⟨h1, h2⟩, h3, h4⟩ := h0
  refine ⟨fun j hj => blt_lt (List.all_eq_true.1 h1 j hj), fun j hj => ?_, fun t ht => ?_, fun x ox hx hox hc => ?_⟩
  · rw [Nat.eq_of_beq_eq_true h2] at hj
    rcases fold_bit ms _ _ _ hj with h | h
    · simp at h
    · exact h
  · have h5 := List.all_eq_true.1 h3 t ht
    rw [Bool.or_eq_true] at h5
    rcases h5 with h5 | h5
    · obtain ⟨z, hz, he⟩ := List.any_eq_true.1 h5
      exact .inl (by rw [Nat.eq_of_beq_eq_true he]; exact hz)
    · exact .inr fun j ox hj => unwr_at h5 hj
  · have := List.all_eq_true.1 h4 x (List.mem_range.2 hx)
    have hgx : l.getD x default = ox := by simp [List.getD, hox]
    rw [hgx, hc] at this
    simpa using this
theorem closed_ancS (h : orderOkS l ms tss = true) {L : Nat → Bool} (hc : Closed l L) : ∀ (y : Nat) (o : Oper), l[y]? = some o → (∀ j ∈ deps o, L j = true) → ∀ x, (ms.getD y 0).testBit x = true → L x = true := by
  intro y
  induction y using Nat.strongRecOn with
  | _ y ih =>
    intro o hy hd x hx
    obtain ⟨h1, h2, _⟩ := orderOkS_at h hy
    obtain ⟨d, hd1, hd2⟩ := h2 x hx
    rcases hd2 with rfl | hd2
    · exact hd _ hd1
    · have hlt := h1 d hd1
      have hyl := (List.getElem?_eq_some_iff.1 hy).1
      have hdl : l[d]? = some (l[d]'(by omega)) := List.getElem?_eq_getElem _
      exact ih d hlt _ hdl (hc d _ hdl (hd d hd1)) x hd2
end
def FreshV (P : Program) (G : Ghost) (n : Nat) (E : Env) (o : Oper) (d : Nat) (B : Blk) (v : AV) : Prop :=
  ∀ E' bl', (∀ t e, lk E t = some e → lk E' t = some e) → lk bl' d = none → EffOp P G (St.mk n E' bl') o (St.mk n ((d, (True, v)) :: E') ((d, B) :: bl'))
def StoreV (P : Program) (G : Ghost) (n : Nat) (E : Env) (o : Oper) (d : Nat) (B B0 : Blk) : Prop :=
  ∀ E' bl', (∀ t e, lk E t = some e → lk E' t = some e) → lk bl' d = some B0 → EffOp P G (St.mk n E' bl') o (St.mk n E' ((d, B) :: bl'))
def StepS (P : Program) (G : Ghost) (ops : Array Oper) (n : Nat) (bl : List (Nat × Blk)) (effs : Effs) (M : List Nat) (i my : Nat) (E : Env) (o : Oper) (d : Nat) (p : Prop) (v : AV) : Prop :=
  (GOk (St.mk n E (bM M i my effs bl)) ops o p ∧ PureOp P G (St.mk n E (bM M i my effs bl)) o p v ∧ (∀ x ∈ effs, x.1 ≠ i) ∧ ∀ x ∈ effs, gdE M i my x.1 = false → ∀ t e, lk E t = some e → e.2.ment x.2.1 = false) ∨
  (GOk (St.mk n [] []) ops o True ∧ p = True ∧ ∃ B, (i, (d, B)) ∈ effs ∧ (∀ x ∈ effs, x.2.1 = d → ¬ x.1 < i) ∧ lk bl d = none ∧ FreshV P G n E o d B v)
def StepW (P : Program) (G : Ghost) (ops : Array Oper) (n : Nat) (bl : List (Nat × Blk)) (effs : Effs) (i : Nat) (E : Env) (o : Oper) : Prop :=
  GOk (St.mk n [] []) ops o True ∧ ∃ d B B0, (i, (d, B)) ∈ effs ∧ lk (bL (fun e => decide (e < i)) effs bl) d = some B0 ∧ StoreV P G n E o d B B0
def LexS (P : Program) (G : Ghost) (ops : Array Oper) (n : Nat) (bl : List (Nat × Blk)) (effs : Effs) (M : List Nat) : List Oper → Nat → List (List Nat) → List Nat → Env → (Env → Prop) → Prop
  | [], _, _, _, env, K => K env
  | o :: rest, i, tss, ms, env, K =>
    (∃ d p v, o.dst = some d ∧ d < n ∧ StepS P G ops n bl effs M i (ms.headD 0) (only (tss.headD []) env) o d p v ∧ LexS P G ops n bl effs M rest (i + 1) tss.tail ms.tail ((d, (p, v)) :: env) K) ∨
    (o.dst = none ∧ StepW P G ops n bl effs i (only (tss.headD []) env) o ∧ LexS P G ops n bl effs M rest (i + 1) tss.tail ms.tail env K)
section
variable {P : Program} {G : Ghost} {ops : Array Oper} {n : Nat} {bl : List (Nat × Blk)} {effs : Effs} {M : List Nat}
def StepAt (P : Program) (G : Ghost) (ops : Array Oper) (n : Nat) (bl : List (Nat × Blk)) (effs : Effs) (M : List Nat) (i k : Nat) (ms : List Nat) (tss : List (List Nat)) (vals : EnvO) (env : Env) (o : Oper) : Prop :=
  (∃ d p v, vals[k]? = some (some (d, (p, v))) ∧ o.dst = some d ∧ d < n ∧ StepS P G ops n bl effs M i (ms.getD k 0) (only (tss.getD k []) (eO (fun j => decide (j < k)) 0 vals env)) o d p v) ∨
  (vals[k]? = some none ∧ o.dst = none ∧ StepW P G ops n bl effs i (only (tss.getD k []) (eO (fun j => decide (j < k)) 0 vals env)) o)
theorem LexS.vals : ∀ {l : List Oper} {i0 : Nat} {tss : List (List Nat)} {ms : List Nat} {env : Env} {K : Env → Prop}, LexS P G ops n bl effs M l i0 tss ms env K →
    ∃ vals : EnvO, vals.length = l.length ∧ K (eO (fun _ => true) 0 vals env) ∧ ∀ k o, l[k]? = some o → StepAt P G ops n bl effs M (i0 + k) k ms tss vals env o
  | [], i0, tss, ms, env, K, h => ⟨[], rfl, h, fun i o hi => by simp at hi⟩
  | o :: rest, i0, tss, ms, env, K, h => by
    have ht : tss.getD 0 [] = tss.headD [] := by cases tss <;> rfl
    have hm : ms.getD 0 0 = ms.headD 0 := by cases ms <;> rfl
    have hts : ∀ i, tss.getD (i + 1) [] = tss.tail.getD i [] := fun i => by cases tss <;> simp
    have hms : ∀ i, ms.getD (i + 1) 0 = ms.tail.getD i 0 := fun i => by cases ms <;> simp
    have hfalse : (fun j => decide (j < 0)) = fun _ : Nat => false := by funext j; simp
    rcases h with ⟨d, p, v, h1, h2, h3, h5⟩ | ⟨h1, h3, h5⟩
    · obtain ⟨vals, g1, g2, g3⟩ := LexS.vals h5
      refine ⟨some (d, (p, v)) :: vals, by simp [g1], ?_, fun k o' hi => ?_⟩
      · rw [eO, if_pos rfl, eO_shift]; exact g2
      · cases k with
        | zero =>
          simp at hi; subst hi
          refine .inl ⟨d, p, v, rfl, h1, h2, ?_⟩
          rw [hfalse, eO_none, ht, hm]
          exact h3
        | succ k =>
          have := g3 k o' (by simpa using hi)
          unfold StepAt at this ⊢
          rw [hts, hms, eO, if_pos (by simp), eO_shift, show (fun j => decide (j + 1 < k + 1)) = fun j => decide (j < k) by funext j; simp, show i0 + (k + 1) = i0 + 1 + k by omega, List.getElem?_cons_succ]
          exact this
    · obtain ⟨vals, g1, g2, g3⟩ := LexS.vals h5
      refine ⟨none :: vals, by simp [g1], ?_, fun k o' hi => ?_⟩
      · rw [eO, eO_shift]; exact g2
      · cases k with
        | zero =>
          simp at hi; subst hi
          refine .inr ⟨rfl, h1, ?_⟩
          rw [hfalse, eO_none, ht]
          exact h3
        | succ k =>
          have := g3 k o' (by simpa using hi)
          unfold StepAt at this ⊢
          rw [hts, hms, eO, eO_shift, show (fun j => decide (j + 1 < k + 1)) = fun j => decide (j < k) by funext j; simp, show i0 + (k + 1) = i0 + 1 + k by omega, List.getElem?_cons_succ]
          exact this
theorem lexS {l : List Oper} {ms : List Nat} {tss : List (List Nat)} (hok : orderOkS l ms tss = true) {vals : EnvO} {env : Env} {Φ0 : Frz} {Q' : Exit → Act → World → Prop} (hvl : vals.length = l.length) (ho : EffsS ms effs)
    (hv : ∀ i o, l[i]? = some o → StepAt P G l.toArray n bl effs ms i i ms tss vals env o)
    (hin : ∀ x ∈ effs, x.1 < l.length)
    (hq : ∀ Φ' β' a' w', Sat G Φ' β' (St.mk n (eO (fun _ => true) 0 vals env) (bL (fun _ => true) effs bl)) a' w' → Φ0.le Φ' → Q' .normal a' w') :
    ∀ (fuel : Nat) (L : Array Bool) (Φ : Frz) (β : Own) (a : Act) (w : World), fuel = un (fun j => L.getD j true) l.length → L.size = l.length → Closed l (fun j => L.getD j false) → Φ0.le Φ →
      Sat G Φ β (St.mk n (eO (fun j => L.getD j false) 0 vals env) (bL (fun j => L.getD j false) effs bl)) a w → wpAny P .any l.toArray Q' fuel L a w := by
  intro fuel
  induction fuel with
  | zero =>
    intro L Φ β a w hf hs hcl hle hsat
    have hall := un_zero _ hf.symm
    have hallf : ∀ j, j < l.length → L.getD j false = true := fun j hj => by
      have := hall j hj
      rw [Array.getD_eq_getD_getElem?, Array.getElem?_eq_getElem (by omega)] at this ⊢; exact this
    have hb : ∀ k, lk (bL (fun _ => true) effs bl) k = lk (bL (fun j => L.getD j false) effs bl) k := fun k => bL_congr effs fun x hx _ => (hallf x.1 (hin x hx)).symm
    refine ⟨List.eq_nil_iff_forall_not_mem.2 fun i hi => ?_, hq Φ β a w (hsat.subB (fun k C hk => by rw [← hb]; exact hk) fun t q v h => ⟨?_, fun k hk => hb k⟩) hle⟩
    · obtain ⟨o, h1, h2, _⟩ := mem_ready' hi
      have := hall i (List.getElem?_eq_some_iff.1 h1).1
      rw [h2] at this; cases this
    · rw [← h]
      refine eO_congr vals 0 env env rfl fun j x hj hx => ?_
      have hjl : j < l.length := by have := (List.getElem?_eq_some_iff.1 hj).1; omega
      simp only [Nat.zero_add]; exact hallf j hjl
  | succ fuel ih =>
    intro L Φ β a w hf hs hcl hle hsat
    have hLf : ∀ j, j < l.length → L.getD j false = L.getD j true := fun j hj => by
      rw [Array.getD_eq_getD_getElem?, Array.getD_eq_getD_getElem?, Array.getElem?_eq_getElem (by omega)]; rfl
    have hpre : ¬ ∀ j, j < l.length → L.getD j true = true := fun h => by
      rw [un_congr (L' := fun _ => true) _ (fun j hj => h j hj)] at hf
      have : ∀ k, un (fun _ => true) k = 0 := fun k => by induction k with | zero => rfl | succ k ihk => rw [un, ihk]; rfl
      rw [this] at hf; omega
    have hex : ∃ y, y < l.length ∧ L.getD y true = false ∧ ∀ j, j < y → L.getD j true = true := by
      have : ∃ j, j < l.length ∧ L.getD j true = false := by
        refine Classical.byContradiction fun hno => hpre fun j hj => ?_
        cases hb : L.getD j true with
        | true => rfl
        | false => exact absurd ⟨j, hj, hb⟩ hno
      obtain ⟨j0, hj0, hb0⟩ := this
      have key : ∀ k, k ≤ l.length → (∀ j, j < k → L.getD j true = true) ∨ ∃ y, y < l.length ∧ L.getD y true = false ∧ ∀ j, j < y → L.getD j true = true := by
        intro k
        induction k with
        | zero => intro _; exact .inl fun j hj => by omega
        | succ k ihk =>
          intro hk
          rcases ihk (by omega) with h | h
          · cases hb : L.getD k true with
            | true =>
              refine .inl fun j hj => ?_
              by_cases e : j = k
              · rw [e]; exact hb
              · exact h j (by omega)
            | false => exact .inr ⟨k, by omega, hb, h⟩
          · exact .inr h
      rcases key l.length (Nat.le_refl _) with h | h
      · have := h j0 hj0; rw [hb0] at this; cases this
      · exact h
    obtain ⟨y, hylen, hyu, hyl⟩ := hex
    refine ⟨fun hr => ?_, fun i hi => ?_⟩
    · exfalso
      have hmem : y ∈ Region.ready .any l.toArray L := ready_mk (o := l[y]) (List.getElem?_eq_getElem _) hyu (fun j hj => by
        have := (orderOkS_at hok (List.getElem?_eq_getElem hylen)).1 j hj
        rw [hLf j (by omega)]; exact hyl j this)
      rw [hr] at hmem; cases hmem
    · obtain ⟨o, h1, h2, h3⟩ := mem_ready' hi
      have hil := (List.getElem?_eq_some_iff.1 h1).1
      obtain ⟨_, _, hlooks, hord⟩ := orderOkS_at hok h1
      have hLi : L.getD i false = false := by rw [hLf i hil]; exact h2
      have anc : ∀ e, bitN (ms.getD i 0) e = true → L.getD e false = true := fun e he => closed_ancS hok hcl i o h1 h3 e (by rw [← bitN_eq]; exact he)
      have later : ∀ x ∈ effs, ∀ d B, (i, (d, B)) ∈ effs → x.2.1 = d → i < x.1 → L.getD x.1 false = false := fun x hx d B hB hd hlt => by
        cases hb : L.getD x.1 false with
        | false => rfl
        | true =>
          have hxl := hin x hx
          have hox : l[x.1]? = some (l[x.1]'hxl) := List.getElem?_eq_getElem _
          have hc := ho.chain (i, (d, B)) hB x hx hd.symm hlt
          have := closed_ancS hok hcl x.1 _ hox (hcl x.1 _ hox hb) i (by rw [← bitN_eq]; exact hc)
          have this : L.getD i false = true := this
          rw [hLi] at this; cases this
      have earlier : ∀ x ∈ effs, ∀ d B, (i, (d, B)) ∈ effs → x.2.1 = d → x.1 < i → L.getD x.1 false = true := fun x hx d B hB hd hlt => anc _ (ho.chain x hx (i, (d, B)) hB hd hlt)
      have same : ∀ x ∈ effs, ∀ d B, (i, (d, B)) ∈ effs → x.1 = i → x = (i, (d, B)) := fun x hx d B hB he => by
        obtain ⟨e, d', B'⟩ := x
        simp only at he; subst he
        obtain ⟨h4, h5⟩ := ho.ix _ _ _ _ _ hx hB
        rw [h4, h5]
      -- who writes what this operation looks at
      have before : ∀ j x, vals[j]? = some (some x) → (x.1 ∈ looks l.toArray o ∨ o.dst = some x.1) → j ≠ i → L.getD j false = decide (j < i) := fun j x hj hx hne => by
        have hjl : j < l.length := by have := (List.getElem?_eq_some_iff.1 hj).1; omega
        have hoj : l[j]? = some l[j] := List.getElem?_eq_getElem _
        have q2 : (l[j]).dst = some x.1 := by
          rcases hv j l[j] hoj with ⟨dj, pj, vj, q1, q2, _⟩ | ⟨q1, _⟩
          · rw [hj] at q1
            obtain rfl := Option.some.inj (Option.some.inj q1)
            exact q2
          · rw [hj] at q1; cases q1
        rcases Nat.lt_or_ge j i with hlt | hge
        · have hc : clash l.toArray l[j] o = true := by
            unfold clash
            rw [q2]
            rcases hx with hx | hx
            · have : (looks l.toArray o).any (Nat.beq x.1) = true := List.any_eq_true.2 ⟨x.1, hx, Nat.beq_refl _⟩
              simp [this]
            · rw [hx]; simp
          have := closed_ancS hok hcl i o h1 h3 j (hord j _ hlt hoj hc)
          have this : L.getD j false = true := this
          rw [this]; simp [hlt]
        · have hgt : i < j := by omega
          have hc : clash l.toArray o l[j] = true := by
            unfold clash
            rw [q2]
            rcases hx with hx | hx
            · have : (looks l.toArray o).any (Nat.beq x.1) = true := List.any_eq_true.2 ⟨x.1, hx, Nat.beq_refl _⟩
              simp [this]
            · rw [hx]; simp
          cases hb : L.getD j false with
          | false => simp; omega
          | true =>
            exfalso
            have hordj := (orderOkS_at hok hoj).2.2.2 i o hgt h1 hc
            have := closed_ancS hok hcl j _ hoj (hcl j _ hoj hb) i hordj
            have this : L.getD i false = true := this
            rw [hLi] at this; cases this
      have hsame : ∀ t e, lk (only (tss.getD i []) (eO (fun j => decide (j < i)) 0 vals env)) t = some e → lk (eO (fun j => L.getD j false) 0 vals env) t = some e := fun t e h => by
        obtain ⟨ht, he⟩ := lk_only h
        rw [← he]
        refine eO_congr vals 0 env env rfl fun j x hj hx => ?_
        simp only [Nat.zero_add]
        by_cases hji : j = i
        · subst hji; rw [hLi]; simp
        · rcases hlooks t ht with hl1 | hl2
          · exact before j x hj (.inl (by rw [hx]; exact hl1)) hji
          · exfalso
            have hjl : j < l.length := by have := (List.getElem?_eq_some_iff.1 hj).1; omega
            have hoj : l[j]? = some (l[j]'hjl) := List.getElem?_eq_getElem _
            rcases hv j _ hoj with ⟨dj, pj, vj, q1, q2, _⟩ | ⟨q1, _⟩
            · rw [hj] at q1
              obtain rfl := Option.some.inj (Option.some.inj q1)
              exact hl2 j _ hoj (by rw [q2]; simp only at hx; rw [hx])
            · rw [hj] at q1; cases q1
      have hne : ∀ j, j ≠ i → ∀ b, (L.setIfInBounds i true).getD j b = L.getD j b := fun j hj b => getD_set_ne b (Ne.symm hj)
      have heq : ∀ b, (L.setIfInBounds i true).getD i b = true := fun b => by rw [Array.getD_eq_getD_getElem?, Array.getElem?_setIfInBounds_self_of_lt (by omega)]; rfl
      have next : ∀ (Φ' : Frz) (β' : Own) (a' : Act) (w' : World) (env' : Env) (bl' : List (Nat × Blk)), Φ.le Φ' → Sat G Φ' β' (St.mk n env' bl') a' w' → (∀ t e, lk (eO (fun j => (L.setIfInBounds i true).getD j false) 0 vals env) t = some e → lk env' t = some e) → (∀ k, lk (bL (fun j => (L.setIfInBounds i true).getD j false) effs bl) k = lk bl' k) → wpAny P .any l.toArray Q' fuel (L.setIfInBounds i true) a' w' := fun Φ' β' a' w' env' bl' hle' hsat' henv hbl => by
        refine ih _ Φ' β' a' w' ?_ (by simpa using hs) (fun y' o' hy' hL' j hj => ?_) (Frz.le_trans hle hle') (hsat'.subB (fun k C h => by rw [← hbl]; exact h) fun t q v' h => ⟨henv t _ h, fun k _ => hbl k⟩)
        · have := un_set (L := fun j => L.getD j true) (L' := fun j => (L.setIfInBounds i true).getD j true) (i := i) h2 (heq true) (fun j hj => hne j hj true) l.length hil
          omega
        · by_cases e1 : j = i
          · subst e1; exact heq false
          · show (L.setIfInBounds i true).getD j false = true
            rw [hne j e1]
            by_cases e2 : y' = i
            · subst e2
              rw [h1] at hy'
              obtain rfl := Option.some.inj hy'
              exact h3 j hj
            · have hL'' : L.getD y' false = true := by rw [← hne y' e2 false]; exact hL'
              exact hcl y' o' hy' hL'' j hj
      have hnil : Sat G Φ β (St.mk n [] []) a w := hsat.subB (fun k C h => by simp [lk] at h) (fun t q v h => by simp [lk] at h)
      -- the blocks when effect i has come
      have hblE : ∀ d B, (i, (d, B)) ∈ effs → ∀ k, lk (bL (fun j => (L.setIfInBounds i true).getD j false) effs bl) k = lk ((d, B) :: bL (fun j => L.getD j false) effs bl) k := fun d B hB k => by
        rw [lk_cons]
        by_cases e : d = k
        · subst e
          rw [if_pos rfl]
          refine bL_first effs ho.desc hB (heq false) (fun x hx hd hlt => ?_) (fun x hx he => same x hx d B hB he)
          show (L.setIfInBounds i true).getD x.1 false = false
          rw [hne x.1 (by omega)]
          exact later x hx d B hB hd hlt
        · rw [if_neg e]
          refine bL_congr effs fun x hx hd => ?_
          refine hne x.1 (fun he => ?_) false
          have := same x hx d B hB he
          rw [this] at hd
          exact e hd
      unfold wpOp
      have hio : l.toArray[i]? = some o := by simpa using h1
      simp only [hio]
      rcases hv i o h1 with ⟨d, p, v, g1, g2, g3, g4⟩ | ⟨g1, g2, hg, d, B, B0, hB, hB0, hst⟩
      · have envn : ∀ t e, lk (eO (fun j => (L.setIfInBounds i true).getD j false) 0 vals env) t = some e → lk ((d, (p, v)) :: eO (fun j => L.getD j false) 0 vals env) t = some e := fun t e h => by
          by_cases e1 : t = d
          · subst e1
            have hl1 : lk (eO (fun j => (L.setIfInBounds i true).getD j false) 0 vals env) t = lk (eO (fun j => decide (j < 0 + i + 1)) 0 vals env) t := eO_congr vals 0 env env rfl fun j x hj hx => by
              simp only [Nat.zero_add]
              by_cases hji : j = i
              · subst hji; rw [heq]; simp
              · rw [hne j hji, before j x hj (.inr (by rw [g2, hx])) hji]
                simp only [decide_eq_decide]; omega
            rw [hl1, eO_lt vals 0 i env _ g1, lk_cons, if_pos rfl] at h
            rw [lk_cons, if_pos rfl]; exact h
          · rw [lk_cons, if_neg (Ne.symm e1), ← h]
            refine eO_congr vals 0 env env rfl fun j x hj hx => ?_
            simp only [Nat.zero_add]
            by_cases hji : j = i
            · subst hji
              rw [hj] at g1
              obtain rfl := Option.some.inj (Option.some.inj g1)
              exact absurd hx.symm e1
            · rw [hne j hji]
        rcases g4 with ⟨g4, g5, hoff, g6⟩ | ⟨hg, rfl, B, hB, hfst, hfr, hfresh⟩
        · have full : ∀ k, cleanN (gdE ms i (ms.getD i 0)) effs k = true → lk (bL (bitN (ms.getD i 0)) effs bl) k = lk (bL (fun j => L.getD j false) effs bl) k := fun k hk => bL_congr effs fun x hx hd => by
            have := cleanN_at hk x hx hd
            unfold gdE at this
            cases hb : bitN (ms.getD i 0) x.1 with
            | true => rw [anc _ hb]
            | false =>
              rw [hb, Bool.false_or] at this
              cases hL : L.getD x.1 false with
              | false => rfl
              | true =>
                have hxl := hin x hx
                have hox : l[x.1]? = some (l[x.1]'hxl) := List.getElem?_eq_getElem _
                have := closed_ancS hok hcl x.1 _ hox (hcl x.1 _ hox hL) i (by rw [← bitN_eq]; exact this)
                have this : L.getD i false = true := this
                rw [hLi] at this; cases this
          have incl : ∀ k C, lk (bM ms i (ms.getD i 0) effs bl) k = some C → lk (bL (fun j => L.getD j false) effs bl) k = some C := fun k C hk => by
            rw [lk_bM] at hk
            split at hk
            · rename_i hc; rw [← full k hc]; exact hk
            · cases hk
          have hsub : Sat G Φ β (St.mk n (only (tss.getD i []) (eO (fun j => decide (j < i)) 0 vals env)) (bM ms i (ms.getD i 0) effs bl)) a w := hsat.subB incl fun t q v hl => ⟨hsame t _ hl, fun k hk => by
            cases hc : cleanN (gdE ms i (ms.getD i 0)) effs k with
            | true => rw [lk_bM, if_pos hc]; exact full k hc
            | false =>
              obtain ⟨x, hx, hd, hb⟩ := cleanN_no hc
              have := g6 x hx hb t _ hl
              rw [hd, hk] at this; cases this⟩
          have hw := g4 G Φ β a w hsub
          have hbl : ∀ k, lk (bL (fun j => (L.setIfInBounds i true).getD j false) effs bl) k = lk (bL (fun j => L.getD j false) effs bl) k := fun k => bL_congr effs fun x hx _ => hne x.1 (hoff x hx) false
          by_cases hpp : p
          · rw [if_pos (hw.2 hpp)]
            refine .inl (Oper.wp_mono' (g5 Φ β a w hsub hpp) (fun a' w' ⟨x, Φ', ha, hvv, hle', heq', hf', hb⟩ => ?_) (fun _ _ _ h => h.elim))
            subst ha
            rw [g2]
            exact next Φ' β _ w' _ _ hle' (hsat.set hle' heq' hf' hb g3 (fun _ => hvv.sup incl) (fun hx => (hx hpp).elim)) envn hbl
          · rw [if_neg (fun hx => hpp (hw.1 hx)), g2]
            exact next Φ β _ w _ _ Φ.le_refl (hsat.set Φ.le_refl (fun _ _ => rfl) hsat.fits (Below.refl _ _) g3 (fun hx => (hpp hx).elim) (fun _ => rfl)) envn hbl
        · rw [if_pos ((hg G Φ β a w hnil).2 trivial)]
          have hnone : lk (bL (fun j => L.getD j false) effs bl) d = none := by
            rw [bL_congr (L' := fun _ => false) effs fun x hx hd => ?_, show bL (fun _ => false) effs bl = bl by rw [bL_eq, List.filter_eq_nil_iff.2 fun x _ => by simp]; rfl]
            · exact hfr
            · have h6 := hfst x hx hd
              by_cases h7 : x.1 = i
              · rw [h7]; exact hLi
              · exact later x hx d B hB hd (by omega)
          refine .inl (Oper.wp_mono' (hfresh _ _ hsame hnone Φ β a w hsat) (fun a' w' ⟨Φ', β', hs', hle'⟩ => ?_) (fun _ _ _ h => h.elim))
          exact next Φ' β' a' w' _ _ hle' hs' envn (hblE d B hB)
      · rw [if_pos ((hg G Φ β a w hnil).2 trivial)]
        have hB0' : lk (bL (fun j => L.getD j false) effs bl) d = some B0 := by
          rw [← hB0]
          refine bL_congr effs fun x hx hd => ?_
          by_cases h7 : x.1 < i
          · rw [earlier x hx d B hB hd h7]; simp [h7]
          · by_cases h8 : x.1 = i
            · rw [h8, hLi]; simp
            · rw [later x hx d B hB hd (by omega)]; simp [h7]
        refine .inl (Oper.wp_mono' (hst _ _ hsame hB0' Φ β a w hsat) (fun a' w' ⟨Φ', β', hs', hle'⟩ => ?_) (fun _ _ _ h => h.elim))
        refine next Φ' β' a' w' _ _ hle' hs' (fun t e h => ?_) (hblE d B hB)
        rw [← h]
        refine eO_congr vals 0 env env rfl fun j x hj hx => ?_
        simp only [Nat.zero_add]
        by_cases hji : j = i
        · subst hji; rw [hj] at g1; cases g1
        · rw [hne j hji]
def fndE : Effs → Nat → Option (Nat × Blk)
  | [], _ => none
  | (e, x) :: r, i => bif Nat.beq e i then some x else fndE r i
theorem fndE_mem {i : Nat} {x : Nat × Blk} : ∀ {effs : Effs}, fndE effs i = some x → (i, x) ∈ effs
  | (e, y) :: r, h => by
    rw [fndE] at h
    cases hb : Nat.beq e i with
    | true =>
      rw [hb, cond_true] at h
      cases h
      rw [Nat.eq_of_beq_eq_true hb]; simp
    | false =>
      rw [hb, cond_false] at h
      exact List.mem_cons_of_mem _ (fndE_mem h)
def fstB (effs : Effs) (i d : Nat) : Bool := effs.all fun x => !Nat.beq x.2.1 d || !Nat.blt x.1 i
theorem fst_of {i d : Nat} (h : fstB effs i d = true) : ∀ x ∈ effs, x.2.1 = d → ¬ x.1 < i := fun x hx hd hlt => by
  have := List.all_eq_true.1 h x hx
  have hb : Nat.blt x.1 i = true := by simp [Nat.blt_eq]; exact hlt
  rw [hd, Nat.beq_refl, hb] at this
  simp at this
def cleanG (g : Nat → Bool) : Effs → Env → Bool
  | [], _ => true
  | (e, (d, _)) :: r, E => (g e || noMent d E) && cleanG g r E
theorem cleanG_of {g : Nat → Bool} {E : Env} : ∀ {effs : Effs}, cleanG g effs E = true → ∀ x ∈ effs, g x.1 = false → ∀ t e, lk E t = some e → e.2.ment x.2.1 = false
  | (e0, (d0, B0)) :: r, h, x, hx, hb, t, e, hl => by
    rw [cleanG, Bool.and_eq_true] at h
    rcases List.mem_cons.1 hx with rfl | hx
    · have h1 := h.1
      simp only at hb
      rw [hb, Bool.false_or, noMent_eq] at h1
      have := List.all_eq_true.1 h1 _ (lk_mem hl)
      simpa using this
    · exact cleanG_of h.2 x hx hb t e hl
def NB (l m : List (Nat × Blk)) : Prop := l = m
theorem NB.nil {l : List (Nat × Blk)} (h : l = []) : NB l [] := h
theorem NB.cons {l r m : List (Nat × Blk)} {x : Nat × Blk} (h : l = x :: r) (h' : NB r m) : NB l (x :: m) := by
  have e : r = m := h'
  subst e; exact h
theorem LexS.nil {i : Nat} {tss : List (List Nat)} {ms : List Nat} {env : Env} {K : Env → Prop} (h : K env) : LexS P G ops n bl effs M [] i tss ms env K := h
theorem LexS.u {i my d : Nat} {op : Op} {ty : TypeId} {pos : String} {after : Array Edge} {ts : List Nat} {tss : List (List Nat)} {ms : List Nat} {rest : List Oper} {env : Env} {K : Env → Prop} {v : AV}
    {bE : List (Nat × Blk)} (hb : NB (bM M i my effs bl) bE) (hp : PureOp P G (St.mk n (only ts env) bE) ⟨some d, op, ty, pos, after, none⟩ True v) (hn : Nat.blt d n = true) (ho : offB effs i = true) (hc : cleanG (gdE M i my) effs (only ts env) = true) (h : LexS P G ops n bl effs M rest (i + 1) tss ms ((d, (True, v)) :: env) K) : LexS P G ops n bl effs M (⟨some d, op, ty, pos, after, none⟩ :: rest) i (ts :: tss) (my :: ms) env K :=
  .inl ⟨d, True, v, rfl, blt_lt hn, .inl ⟨GOk.none rfl, by have e : bM M i my effs bl = bE := hb; subst e; exact hp, off_of ho, cleanG_of hc⟩, h⟩
/-- new memory -/
theorem LexS.f {i my d : Nat} {B : Blk} {op : Op} {ty : TypeId} {pos : String} {after : Array Edge} {ts : List Nat} {tss : List (List Nat)} {ms : List Nat} {rest : List Oper} {env : Env} {K : Env → Prop} {v : AV}
    (hk : fndE effs i = some (d, B)) (hp : FreshV P G n (only ts env) ⟨some d, op, ty, pos, after, none⟩ d B v) (hn : Nat.blt d n = true) (h1 : fstB effs i d = true) (h2 : lk bl d = none) (h : LexS P G ops n bl effs M rest (i + 1) tss ms ((d, (True, v)) :: env) K) : LexS P G ops n bl effs M (⟨some d, op, ty, pos, after, none⟩ :: rest) i (ts :: tss) (my :: ms) env K :=
  .inl ⟨d, True, v, rfl, blt_lt hn, .inr ⟨GOk.none rfl, rfl, B, fndE_mem hk, fst_of h1, h2, hp⟩, h⟩
/-- a store -/
theorem LexS.s {i my d : Nat} {B B0 : Blk} {op : Op} {ty : TypeId} {pos : String} {after : Array Edge} {ts : List Nat} {tss : List (List Nat)} {ms : List Nat} {rest : List Oper} {env : Env} {K : Env → Prop}
    (hk : fndE effs i = some (d, B)) (hB0 : lk (bL (fun e => Nat.blt e i) effs bl) d = some B0) (hp : StoreV P G n (only ts env) ⟨none, op, ty, pos, after, none⟩ d B B0) (h : LexS P G ops n bl effs M rest (i + 1) tss ms env K) : LexS P G ops n bl effs M (⟨none, op, ty, pos, after, none⟩ :: rest) i (ts :: tss) (my :: ms) env K :=
  .inr ⟨rfl, ⟨GOk.none rfl, d, B, B0, fndE_mem hk, by
    rw [← hB0]
    exact bL_congr effs fun x _ _ => by
      by_cases h : x.1 < i
      · have hb : Nat.blt x.1 i = true := by simp [Nat.blt_eq]; exact h
        rw [hb]; simp [h]
      · have hb : Nat.blt x.1 i = false := by
          cases hb : Nat.blt x.1 i with
          | false => rfl
          | true => exact absurd (blt_lt hb) h
        rw [hb]; simp [h], hp⟩, h⟩
theorem Ev.more {E E' : Env} {b b' : List (Nat × Blk)} {p : Prop} {x : Operand} {v : AV} (h : ∀ t e, lk E t = some e → lk E' t = some e) : Ev (St.mk n E b) p x v → Ev (St.mk n E' b') p x v := fun ⟨q, h1, h2⟩ => ⟨q, by
  cases x with
  | tmp t => exact h t _ h1
  | const v => exact h1
  | func f => exact h1
  | global g => exact h1, h2⟩
theorem FreshV.alloc {T : Nat → Option TI} (hT : TOK P T) {E : Env} {B : Blk} {t d : Nat} {ti : TI} {ty : TypeId} {pos : String} {after : Array Edge} {gd : Option (Nat × Bool)} (ht : T t = some ti) (hz : ti.zero.cells.length = ti.sz) (hn : Nat.blt d n = true) (hB : (⟨t, ti.sz, [ti.zero.cells]⟩ : Blk) = B) :
    FreshV P G n E ⟨some d, .alloc t, ty, pos, after, gd⟩ d B (.addr d 0 0) := fun E' bl' hs hfr => by
  subst hB
  exact EffOp.fresh hfr (E_alloc hT rfl rfl (blt_lt hn) ht hz)
theorem StoreV.mk {T : Nat → Option TI} (hT : TOK P T) {E : Env} {B B0 : Blk} {t d i off : Nat} {x y : Operand} {ti : TI} {r : List Cell} {q : PV} {ty : TypeId} {pos : String} {after : Array Edge} {gd : Option (Nat × Bool)} (hx : Ev (St.mk n E []) True x (.addr d i off)) (hy : Ev (St.mk n E []) True y (.pv q)) (ht : T t = some ti) (hr : B0.rows[i]? = some r)
    (hq : q.cells.length = ti.sz) (hfit : Nat.ble (off + ti.sz) r.length = true) (hB : ({ B0 with rows := B0.rows.set i (splice r off q.cells) } : Blk) = B) : StoreV P G n E ⟨none, .store t x y, ty, pos, after, gd⟩ d B B0 := fun E' bl' hs hl => by
  subst hB
  exact E_store hT rfl rfl ht (hx.more hs) (hy.more hs) hl hr hq (Nat.le_of_ble_eq_true hfit)
/-- A REGION WHOSE ORDER IS OPEN, with new memory and stores, walked once in the text's order. -/
def descI : List (Nat × Nat) → Bool
  | [] => true
  | (e, d) :: r => r.all (fun y => !Nat.beq y.2 d || Nat.blt y.1 e) && descI r
theorem descB_of : ∀ effs : Effs, descI (effs.map fun x => (x.1, x.2.1)) = true → descB effs = true
  | [], _ => rfl
  | (e, (d, B)) :: r, h => by
    rw [List.map_cons, descI, Bool.and_eq_true] at h
    rw [descB, Bool.and_eq_true]
    refine ⟨?_, descB_of r h.2⟩
    have := h.1
    rw [List.all_map] at this
    exact this
def chainI (ms : List Nat) (ixs : List (Nat × Nat)) : Bool := ixs.all fun x => ixs.all fun y => !Nat.beq x.2 y.2 || !Nat.blt x.1 y.1 || bitN (ms.getD y.1 0) x.1
def sOk (l : List Oper) (ms : List Nat) (tss : List (List Nat)) (ixs : List (Nat × Nat)) : Bool :=
  orderOkS l ms tss && ndB (ixs.map (·.1)) && descI ixs && chainI ms ixs && ixs.all (fun x => Nat.blt x.1 l.length)
theorem W.drawS {id : Nat} {l : List Oper} {env : Env} {Q : Exit → St → Prop} (ms : List Nat) (tss : List (List Nat)) (effs : Effs) (ixs : List (Nat × Nat)) (hm : P.follows .mixedOrders = true) (hk : sOk l ms tss ixs = true) (hix : effs.map (fun x => (x.1, x.2.1)) = ixs)
    (h : LexS P G l.toArray n bl effs ms l 0 tss ms env fun env' => Q .normal (St.mk n env' (effs.map (·.2) ++ bl))) : W P G (.region id l.toArray true) Q (St.mk n env bl) := fun Φ β a w hs => by
  unfold sOk at hk
  simp only [Bool.and_eq_true] at hk
  obtain ⟨⟨⟨⟨hok, h1⟩, h2⟩, h3⟩, h4⟩ := hk
  subst hix
  have h1' : ndB (effs.map (·.1)) = true := by rw [List.map_map] at h1; exact h1
  have h3' : chainB ms effs = true := by
    unfold chainI at h3
    rw [List.all_map] at h3
    refine List.all_eq_true.2 fun x hx => ?_
    have := List.all_eq_true.1 h3 x hx
    simp only [Function.comp] at this
    rw [List.all_map] at this
    exact this
  have h4' : effs.all (fun x => Nat.blt x.1 l.length) = true := by rw [List.all_map] at h4; exact h4
  obtain ⟨vals, v1, v2, v3⟩ := LexS.vals h
  refine wp_region_any hm ?_
  have hsz : l.toArray.size = l.length := by simp
  rw [hsz]
  have hall : bL (fun _ => true) effs bl = effs.map (·.2) ++ bl := by rw [bL_eq, List.filter_eq_self.2 fun x _ => rfl]
  refine lexS hok v1 (EffsS.of h1' (descB_of effs h2) h3') (fun i o ho => ?_) (fun x hx => blt_lt (List.all_eq_true.1 h4' x hx)) (Φ0 := Φ) (fun Φ' β' a' w' q le => ⟨_, Φ', β', v2, by rw [← hall]; exact q, le⟩) l.length (Array.replicate l.length false) Φ β a { w with drawn := w.drawn + 1 } ?_ (by simp) (fun y o hy hL => ?_) Φ.le_refl ?_
  · have := v3 i o ho
    rwa [Nat.zero_add] at this
  · have : un (fun j => (Array.replicate l.length false).getD j true) l.length = un (fun j => decide (j < 0)) l.length := un_congr _ fun j hj => by simp [hj]
    rw [this, un_lt _ (Nat.zero_le _)]; omega
  · have : (Array.replicate l.length false).getD y false = true := hL
    rw [Array.getD_eq_getD_getElem?, Array.getElem?_replicate] at this
    split at this <;> simp at this
  · have hf : ∀ j, (Array.replicate l.length false).getD j false = false := fun j => by
      rw [Array.getD_eq_getD_getElem?, Array.getElem?_replicate]
      split <;> rfl
    have hnone : (fun j => (Array.replicate l.length false).getD j false) = fun _ => false := funext hf
    rw [hnone, eO_none]
    have hb : bL (fun _ => false) effs bl = bl := by rw [bL_eq, List.filter_eq_nil_iff.2 fun x _ => by simp]; rfl
    rw [hb]
    exact ⟨hs.kept.drew, hs.fits, hs.old, hs.siz, hs.dfr, hs.env, hs.blk, hs.vir, hs.inj⟩
end
attribute [irreducible] LexS FreshV StoreV NB
end Lf
end
