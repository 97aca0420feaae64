/-
  Literals of structs and slices; states weakened at a loop's head and at other joints.
-/
import Derived.Test.YtipghibmgfhmpaaGreatDoorLfEff2
set_option linter.unusedVariables false
set_option linter.unusedSimpArgs false
namespace Lf
open Go Go.RowKit

section
variable {P : Program} {G : Ghost} {A : St} {Φ : Frz} {β : Own} {a : Act} {w w' : World}

/-- The parts of a literal: places and data. -/
def EvP (A : St) (p : Prop) : List (Nat × Operand) → List (Nat × PV) → Prop
  | [], [] => True
  | (i, x) :: xs, (j, q) :: qs => (i = j ∧ ∃ av, Ev A p x av ∧ toPV A.blks av = some q ∧ av = .pv q) ∧ EvP A p xs qs
  | _, _ => False

/-- The cells of a literal: what is not named keeps its zero. -/
def fillC (place : Nat → Option (Nat × Nat)) (cells : List Cell) : List (Nat × PV) → Option (List Cell)
  | [] => some cells
  | (i, q) :: rest =>
    match place i with
    | none => none
    | some (off, size) => bif Nat.beq q.cells.length size && Nat.ble (off + size) cells.length then fillC place (splice cells off q.cells) rest else none

theorem foldl_set (cells : Array Value) : ∀ (vs : List Value) (cur : Array Value) (off k : Nat), off + k + vs.length ≤ cur.size →
    (vs.zipIdx k).foldl (fun cs (x : Value × Nat) => cs.setIfInBounds (off + x.2) x.1) cur = (cur.toList.take (off + k) ++ vs ++ cur.toList.drop (off + k + vs.length)).toArray
  | [], cur, off, k, h => by simp
  | v :: vs, cur, off, k, h => by
    have hl : off + k < cur.size := by simp at h; omega
    simp only [List.zipIdx_cons, List.foldl_cons]
    rw [foldl_set cells vs (cur.setIfInBounds (off + k) v) off (k + 1) (by simp at h ⊢; omega)]
    have e := list_seg_step cur.toList (off + k) v vs (by simp at h ⊢; omega)
    congr 1
    simpa [Array.toList_setIfInBounds, Nat.add_assoc] using e

theorem relL_splice {vs us : List Value} {cs ds : List Cell} {off : Nat} (h : RelL Φ vs cs) (h' : RelL Φ us ds) (hf : off + ds.length ≤ cs.length) : RelL Φ (vs.take off ++ us ++ vs.drop (off + us.length)) (splice cs off ds) := by
  have h1 := h.length
  have h2 := h'.length
  have ht : ∀ (n : Nat), RelL Φ (vs.take n) (cs.take n) := fun n => RelL.of_get (by simp [h1]) fun j c hj => by
    rw [List.getElem?_take] at hj
    split at hj
    · rename_i hjn
      obtain ⟨v, k1, k2⟩ := h.get hj
      exact ⟨v, by rw [List.getElem?_take, if_pos hjn]; exact k1, k2⟩
    · cases hj
  have hd : ∀ (n : Nat), RelL Φ (vs.drop n) (cs.drop n) := fun n => RelL.of_get (by simp [h1]) fun j c hj => by
    rw [List.getElem?_drop] at hj
    obtain ⟨v, k1, k2⟩ := h.get hj
    exact ⟨v, by rw [List.getElem?_drop]; exact k1, k2⟩
  unfold splice
  rw [h2]
  exact ((ht off).append h').append (hd _)

theorem fill_run {place : Nat → Option (Nat × Nat)} (hs : Sat G Φ β A a w) {p : Prop} (hp : p) : ∀ {ps : List (Nat × Operand)} {qs : List (Nat × PV)} {cells : Array Value} {cs res : List Cell}, EvP A p ps qs → RelL Φ cells.toList cs → fillC place cs qs = some res →
    ∃ out : Array Value, Instr.fill place cells (ps.map fun (i, x) => (i, a.eval x)) = some out ∧ RelL Φ out.toList res
  | [], [], cells, cs, res, _, hc, hf => by
    simp only [fillC, Option.some.injEq] at hf; subst hf
    exact ⟨cells, rfl, hc⟩
  | (i, x) :: ps, (j, q) :: qs, cells, cs, res, h, hc, hf => by
    obtain ⟨⟨rfl, av, h1, _, rfl⟩, h3⟩ := h
    have hv := PRel.cells (show PRel Φ (a.eval x) q from hs.ev h1 hp)
    simp only [fillC] at hf
    cases hpl : place i with
    | none => rw [hpl] at hf; cases hf
    | some os =>
      obtain ⟨off, size⟩ := os
      rw [hpl] at hf
      simp only at hf
      cases hb : Nat.beq q.cells.length size && Nat.ble (off + size) cs.length with
      | false => rw [hb] at hf; cases hf
      | true =>
        rw [hb] at hf
        simp only [cond_true] at hf
        simp only [Bool.and_eq_true] at hb
        have e1 : q.cells.length = size := Nat.eq_of_beq_eq_true hb.1
        have e2 : off + size ≤ cs.length := Nat.le_of_ble_eq_true hb.2
        have e3 : (a.eval x).cells.size = size := by have := hv.length; rw [← e1, ← this]; simp
        have e4 : cells.size = cs.length := by have := hc.length; rw [← this]; simp
        have hsp := relL_splice (Φ := Φ) hc hv (off := off) (by rw [e1]; exact e2)
        have hfold : (a.eval x).cells.zipIdx.foldl (fun cs (x : Value × Nat) => cs.setIfInBounds (off + x.2) x.1) cells = (cells.toList.take off ++ (a.eval x).cells.toList ++ cells.toList.drop (off + (a.eval x).cells.toList.length)).toArray := by
          rw [← Array.foldl_toList, Array.toList_zipIdx]
          have := foldl_set cells (a.eval x).cells.toList cells off 0 (by simp; omega)
          simpa using this
        obtain ⟨out, k1, k2⟩ := fill_run hs hp (place := place) h3 (cells := (cells.toList.take off ++ (a.eval x).cells.toList ++ cells.toList.drop (off + (a.eval x).cells.toList.length)).toArray) (by simpa using hsp) hf
        refine ⟨out, ?_, k2⟩
        simp only [List.map_cons, Instr.fill, hpl]
        rw [if_neg (by simp [e3]; omega), hfold]
        exact k1

variable {T : TT} (hT : TOK P T)
include hT

/-- Where the fields of a struct lie. -/
def placeS (T : TT) (fs : List (Nat × Nat)) (i : Nat) : Option (Nat × Nat) := (fs[i]?).bind fun f => (T f.2).map fun t => (f.1, t.sz)

theorem mapM_places {fields : Array Field} {fs : List (Nat × Nat)} (hm : fields.toList.map (fun f => (f.offset, f.type)) = fs) (hT' : ∀ f ∈ fs, (T f.2).isSome = true) (w : World) :
    ∃ places : Array (Nat × Nat), (fields.mapM fun f => (do pure (f.offset, ← Go.sizeOf f.type) : Sem (Nat × Nat))).run P w = .ok places w ∧ ∀ i, places[i]? = placeS T fs i := by
  have key : ∀ (l : List Field) (fs : List (Nat × Nat)), l.map (fun f => (f.offset, f.type)) = fs → (∀ f ∈ fs, (T f.2).isSome = true) →
      ∃ ps : List (Nat × Nat), (l.mapM fun f => (do pure (f.offset, ← Go.sizeOf f.type) : Sem (Nat × Nat))).run P w = .ok ps w ∧ ∀ i, ps[i]? = placeS T fs i := by
    intro l
    induction l with
    | nil => intro fs h _; subst h; exact ⟨[], by simp, fun i => by simp [placeS]⟩
    | cons f l ih =>
      intro fs h hT'
      subst h
      obtain ⟨ps, h1, h2⟩ := ih _ rfl (fun g hg => hT' g (List.mem_cons_of_mem _ hg))
      obtain ⟨ti, hti⟩ := Option.isSome_iff_exists.1 (hT' (f.offset, f.type) (by simp))
      refine ⟨(f.offset, ti.sz) :: ps, ?_, fun i => ?_⟩
      · have hti' : T f.type = some ti := hti
        rw [List.mapM_cons]
        simp only [Sem.run_bind, run_sizeOf hT hti', Result.andThen_ok, h1, Sem.run_pure]
      · cases i with
        | zero => simp only at hti; simp [placeS, hti]
        | succ i => simpa [placeS] using h2 i
  obtain ⟨ps, h1, h2⟩ := key fields.toList fs hm hT'
  refine ⟨ps.toArray, ?_, fun i => by simpa using h2 i⟩
  rw [Array.mapM_eq_mapM_toList]
  rw [Sem.run_map, h1]; rfl

theorem P_build {o : Oper} {p : Prop} {t : Nat} {ps : List (Nat × Operand)} {qs : List (Nat × PV)} {ti : TI} {fs : List (Nat × Nat)} {res : List Cell} (ho : o.op = .build t ps.toArray) (ht : T t = some ti) (hk : ti.kind = .struct fs) (hfs : ∀ f ∈ fs, (T f.2).isSome = true)
    (hx : EvP A p ps qs) (hf : fillC (placeS T fs) ti.zero.cells qs = some res) : PureOp P G A o p (.pv (.agg res)) := PureOp.val fun Φ β a w hs hp => by
  obtain ⟨fields, hu, hm⟩ : ∃ fields, P.underlying t = some (.struct fields) ∧ fields.toList.map (fun f => (f.offset, f.type)) = fs := by have := (hT _ _ ht).kind; rw [hk] at this; exact this
  obtain ⟨i, hi, hisz, hib, z, hzz, hrel⟩ := (hT t ti ht).info
  obtain ⟨places, hpl, hpe⟩ := mapM_places hT hm hfs w
  obtain ⟨out, k1, k2⟩ := fill_run (place := fun i => places[i]?) hs hp hx (hrel Φ).cells (by rw [show (fun i => places[i]?) = placeS T fs from funext hpe]; exact hf)
  refine ⟨.agg out, exec_val (m := Instr.build t (ps.toArray.map fun (i, x) => (i, a.eval x))) (by simp only [execOp, ho]) ?_, out, rfl, k2⟩
  have hz : (zeroValue t).run P w = .ok z w := by simp [zeroValue, typeInfo, hi, hzz]
  simp only [Instr.build, Sem.run_bind, hz, Result.andThen_ok, run_underlying hu, hpl]
  have e2 : (ps.toArray.map fun (x : Nat × Operand) => (x.1, a.eval x.2)).toList = ps.map fun (i, x) => (i, a.eval x) := by simp
  simp only [e2, k1]
  rfl

/-- The rows of a slice literal: every place named, in order. -/
def EvR (A : St) : List (Nat × Operand) → Nat → List (List Cell) → Prop
  | [], _, [] => True
  | (i, x) :: xs, k, r :: rs => (i = k ∧ ∃ q, Ev A True x (.pv q) ∧ q.cells = r) ∧ EvR A xs (k + 1) rs
  | _, _, _ => False

omit hT in
theorem fillR_run {sz : Nat} (hs : Sat G Φ β A a w) : ∀ {ps : List (Nat × Operand)} {k : Nat} {rs : List (List Cell)} {cells : Array Value}, EvR A ps k rs → (∀ r ∈ rs, r.length = sz) → cells.size = (k + rs.length) * sz →
    ∃ out : Array Value, Instr.fill (fun i => some (i * sz, sz)) cells (ps.map fun (i, x) => (i, a.eval x)) = some out ∧ out.size = cells.size ∧ (∀ j, j < k * sz → out[j]? = cells[j]?) ∧
      ∀ (i j : Nat) (r : List Cell) (c : Cell), rs[i]? = some r → r[j]? = some c → ∃ v, out[(k + i) * sz + j]? = some v ∧ Rel Φ v c
  | [], k, [], cells, _, _, _ => ⟨cells, rfl, rfl, fun _ _ => rfl, fun i j r c h => by simp at h⟩
  | (i, x) :: ps, k, r :: rs, cells, h, hr, hsz => by
    obtain ⟨⟨rfl, q, h1, rfl⟩, h3⟩ := h
    have hv := PRel.cells (show PRel Φ (a.eval x) q from hs.ev h1 trivial)
    have e1 : q.cells.length = sz := hr _ (by simp)
    have e3 : (a.eval x).cells.size = sz := by have := hv.length; rw [← e1, ← this]; simp
    have e5 : i * sz + sz ≤ cells.size := by
      rw [hsz]
      calc i * sz + sz = (i + 1) * sz := by rw [Nat.add_mul, Nat.one_mul]
        _ ≤ (i + (q.cells :: rs).length) * sz := Nat.mul_le_mul_right _ (by simp)
    have hfold : (a.eval x).cells.zipIdx.foldl (fun cs (x : Value × Nat) => cs.setIfInBounds (i * sz + x.2) x.1) cells = (cells.toList.take (i * sz) ++ (a.eval x).cells.toList ++ cells.toList.drop (i * sz + (a.eval x).cells.toList.length)).toArray := by
      rw [← Array.foldl_toList, Array.toList_zipIdx]
      have := foldl_set cells (a.eval x).cells.toList cells (i * sz) 0 (by simp; omega)
      simpa using this
    have key : ∀ m, (cells.toList.take (i * sz) ++ (a.eval x).cells.toList ++ cells.toList.drop (i * sz + (a.eval x).cells.toList.length)).toArray[m]? =
        if m < i * sz then cells[m]? else if m < i * sz + sz then (a.eval x).cells[m - i * sz]? else cells[m]? := fun m => by
      simp only [List.getElem?_toArray, List.getElem?_append, List.length_append, List.length_take, Array.length_toList, List.getElem?_take, List.getElem?_drop, Array.getElem?_toList, e3]
      have hm : min (i * sz) cells.size = i * sz := by omega
      rw [hm]
      by_cases k1 : m < i * sz
      · rw [if_pos (by omega), if_pos k1, if_pos k1, if_pos k1]
      · by_cases k2 : m < i * sz + sz
        · rw [if_pos k2, if_neg k1, if_neg k1, if_pos k2]
        · rw [if_neg k2, if_neg k1, if_neg k2]
          congr 1; omega
    have hsz2 : (cells.toList.take (i * sz) ++ (a.eval x).cells.toList ++ cells.toList.drop (i * sz + (a.eval x).cells.toList.length)).toArray.size = cells.size := by
      simp [e3]; omega
    obtain ⟨out, k1, k2, k3, k4⟩ := fillR_run hs (sz := sz) (k := i + 1) h3 (fun r h => hr r (List.mem_cons_of_mem _ h)) (cells := (cells.toList.take (i * sz) ++ (a.eval x).cells.toList ++ cells.toList.drop (i * sz + (a.eval x).cells.toList.length)).toArray)
      (by rw [hsz2, hsz]; congr 1; simp; omega)
    have hi1 : (i + 1) * sz = i * sz + sz := by rw [Nat.add_mul, Nat.one_mul]
    refine ⟨out, ?_, by rw [k2, hsz2], fun j hj => ?_, fun i' j r c hi hj => ?_⟩
    · simp only [List.map_cons, Instr.fill]
      rw [if_neg (by simp [e3]; omega), hfold]
      exact k1
    · rw [k3 j (by omega), key, if_pos hj]
    · cases i' with
      | zero =>
        simp at hi; subst hi
        have hjl : j < sz := by rw [← e1]; exact (List.getElem?_eq_some_iff.1 hj).1
        obtain ⟨v, q1, q2⟩ := relL_get' hv hj
        refine ⟨v, ?_, q2⟩
        rw [Nat.add_zero, k3 _ (by omega), key, if_neg (by omega), if_pos (by omega)]
        rw [show i * sz + j - i * sz = j by omega]
        exact q1
      | succ i' =>
        obtain ⟨v, q1, q2⟩ := k4 i' j r c (by simpa using hi) hj
        exact ⟨v, by rw [show i + (i' + 1) = i + 1 + i' by omega]; exact q1, q2⟩

theorem E_lit {o : Oper} {t e d n : Nat} {ps : List (Nat × Operand)} {rs : List (List Cell)} {ti te : TI} (ho : o.op = .buildSlice t n ps.toArray) (hd : o.dst = some d) (hn : d < A.n) (ht : T t = some ti) (hk : ti.kind = .slice e) (he : T e = some te)
    (hx : EvR A ps 0 rs) (hlen : rs.length = n) (hrs : ∀ r ∈ rs, r.length = te.sz) (hb : n * te.sz ≤ 16777216) (hn' : n ≤ 16777216) : EffOp P G A o ((A.bind d d ⟨e, te.sz, rs⟩).set d True (.slc d)) := EffOp.of_val fun Φ β a w hs => by
  have hu : P.underlying t = some (.slice e) := by have := (hT _ _ ht).kind; rw [hk] at this; exact this
  obtain ⟨i, hi, hisz, hib, z, hzz, hrel⟩ := (hT e te he).info
  have hrun : ∃ out : Array Value, (Instr.buildSlice t n (ps.toArray.map fun (i, x) => (i, a.eval x))).run P w = .ok (.slice (some ⟨w.heap.size, 0, none⟩) n n) (w.alloc (.cells out e)) ∧ out.size = n * te.sz ∧
      ∀ (i j : Nat) (r : List Cell) (c : Cell), rs[i]? = some r → r[j]? = some c → ∃ v, out[i * te.sz + j]? = some v ∧ Rel Φ v c := by
    have e2 : (ps.toArray.map fun (x : Nat × Operand) => (x.1, a.eval x.2)).toList = ps.map fun (i, x) => (i, a.eval x) := by simp
    have hz : (zeroValue e).run P w = .ok z w := by simp [zeroValue, typeInfo, hi, hzz]
    have hb' : ¬ (2 ^ 24 < n * te.sz) := by omega
    have main : ∀ (Z : Array Value), Z.size = n * te.sz → (∀ out, Instr.fill (fun i => some (i * te.sz, te.sz)) Z (ps.map fun (i, x) => (i, a.eval x)) = some out → (Instr.buildSlice t n (ps.toArray.map fun (i, x) => (i, a.eval x))).run P w = .ok (.slice (some ⟨w.heap.size, 0, none⟩) n n) (w.alloc (.cells out e))) →
        ∃ out : Array Value, (Instr.buildSlice t n (ps.toArray.map fun (i, x) => (i, a.eval x))).run P w = .ok (.slice (some ⟨w.heap.size, 0, none⟩) n n) (w.alloc (.cells out e)) ∧ out.size = n * te.sz ∧
          ∀ (i j : Nat) (r : List Cell) (c : Cell), rs[i]? = some r → r[j]? = some c → ∃ v, out[i * te.sz + j]? = some v ∧ Rel Φ v c := fun Z hZ hrun => by
      obtain ⟨out, k1, k2, _, k4⟩ := fillR_run hs (sz := te.sz) hx hrs (cells := Z) (by rw [hZ, hlen, Nat.zero_add])
      exact ⟨out, hrun out k1, by rw [k2, hZ], fun i j r c hi hj => by have := k4 i j r c hi hj; rwa [Nat.zero_add] at this⟩
    by_cases h0 : n * te.sz = 0
    · refine main ((Array.range (n * te.sz)).map ((#[] : Array Value)[· % (#[] : Array Value).size]!)) (by rw [Array.size_map, Array.size_range]) fun out k1 => ?_
      rw [h0] at k1
      simp only [Instr.buildSlice, Sem.run_bind, run_underlying hu, Result.andThen_ok, run_sizeOf hT he]
      rw [if_neg hb']
      simp only [h0, if_true, Sem.run_pure, Sem.run_bind, Result.andThen_ok]
      rw [e2, k1]
      rfl
    · refine main ((Array.range (n * te.sz)).map (z.cells[· % z.cells.size]!)) (by rw [Array.size_map, Array.size_range]) fun out k1 => ?_
      simp only [Instr.buildSlice, Sem.run_bind, run_underlying hu, Result.andThen_ok, run_sizeOf hT he]
      rw [if_neg hb']
      simp only [h0, if_false, Sem.run_pure, Sem.run_bind, Result.andThen_ok, hz]
      rw [e2, k1]
      rfl
  obtain ⟨out, h1, h2, h3⟩ := hrun
  have hx1 : (execOp a.eval o).run P w = .ok (.value (.slice (some ⟨w.heap.size, 0, none⟩) n n)) (w.alloc (.cells out e)) := by
    have e3 : execOp a.eval o = (do pure (.value (← Instr.buildSlice t n (ps.toArray.map fun (i, x) => (i, a.eval x))))) := by simp only [execOp, ho]
    rw [e3, Sem.run_bind, h1]; rfl
  refine ⟨_, _, Φ, bindOwn β d d w.heap.size n, hx1, ?_, Φ.le_refl⟩
  rw [hd]
  have hml : n ≤ maxLen := by unfold maxLen; omega
  have hob : Nat.ble mapTag e = false := (hT e te he).small
  have hall := hs.alloc (d := d) (cap := n) (B := ⟨e, te.sz, rs⟩) (cur := out) hob h2 (Nat.le_of_eq hlen) hml hrs h3
  have := hall.putSlc (d := d) hn (by simp only [St.bind]; rw [lk_cons, if_pos rfl]) (by exact hob) bindOwn_self
  rw [hlen] at this
  exact this
end

/-! ### States that are weakened -/
section
variable {A B : St}
theorem Le.refl : Le A A := fun G Φ β a w h => ⟨Φ, β, Φ.le_refl, h⟩
theorem Le.trans {C : St} (h : Le A B) (h' : Le B C) : Le A C := fun G Φ β a w hs =>
  let ⟨Φ1, β1, l1, s1⟩ := h G Φ β a w hs
  let ⟨Φ2, β2, l2, s2⟩ := h' G Φ1 β1 a w s1
  ⟨Φ2, β2, Frz.le_trans l1 l2, s2⟩

/-- The names that a slot's value needs. -/
def NameOK (bl bl' : List (Nat × Blk)) : AV → Prop
  | .addr n _ _ | .slc n | .mp n | .pin n _ _ _ => lk bl' n = lk bl n
  | .itr d n => lk bl' d = lk bl d ∧ lk bl' n = lk bl n
  | _ => True

def SubE (A : St) (bl' : List (Nat × Blk)) : List (Nat × (Prop × AV)) → Prop
  | [] => True
  | (t, (q, v)) :: r => (lk A.env t = some (q, v) ∧ NameOK A.blks bl' v) ∧ SubE A bl' r
def SubB (A : St) : List (Nat × Blk) → Prop
  | [] => True
  | (n, B) :: r => lk A.blks n = some B ∧ SubB A r
theorem subE_get {bl' : List (Nat × Blk)} : ∀ {env : List (Nat × (Prop × AV))}, SubE A bl' env → ∀ {t q v}, lk env t = some (q, v) → lk A.env t = some (q, v) ∧ NameOK A.blks bl' v
  | [], _, t, q, v, h => by simp [lk] at h
  | (s, (q0, v0)) :: r, hs, t, q, v, h => by
    rw [lk_cons] at h
    split at h
    · rename_i e; subst e
      simp only [Option.some.injEq, Prod.mk.injEq] at h
      obtain ⟨rfl, rfl⟩ := h
      exact hs.1
    · exact subE_get hs.2 h
theorem subB_get : ∀ {bl : List (Nat × Blk)}, SubB A bl → ∀ {n B}, lk bl n = some B → lk A.blks n = some B
  | [], _, n, B, h => by simp [lk] at h
  | (m, B0) :: r, hs, n, B, h => by
    rw [lk_cons] at h
    split at h
    · rename_i e; subst e
      obtain rfl := Option.some.inj h
      exact hs.1
    · exact subB_get hs.2 h
theorem Le.mk (hn : B.n = A.n) (he : SubE A B.blks B.env) (hb : SubB A B.blks) : Le A B := fun G Φ β a w hs => by
  refine ⟨Φ, β, Φ.le_refl, hs.kept, hs.fits, hs.old, by rw [hn]; exact hs.siz, hs.dfr, fun t q v h => ?_, fun n C b cap h1 h2 => hs.blk n C b cap (subB_get hb h1) h2, fun n C h1 h2 => hs.vir n C (subB_get hb h1) h2, fun n n' C C' b c c' h1 h2 h3 h4 => hs.inj n n' C C' b c c' (subB_get hb h1) (subB_get hb h2) h3 h4⟩
  obtain ⟨h1, h2⟩ := subE_get he h
  refine ⟨fun hq => ?_, (hs.env t q v h1).2⟩
  have h3 := (hs.env t q v h1).1 hq
  cases v with
  | pv p => exact h3
  | tup l => exact h3
  | top => trivial
  | addr n i off =>
    obtain ⟨b, cap, C, g1, g2, g3⟩ := h3
    exact ⟨b, cap, C, g1, by rw [show lk B.blks n = lk A.blks n from h2]; exact g2, g3⟩
  | slc n =>
    obtain ⟨C, g2, g3⟩ := h3
    exact ⟨C, by rw [show lk B.blks n = lk A.blks n from h2]; exact g2, g3⟩
  | mp n =>
    obtain ⟨b, cap, C, g1, g2, g3⟩ := h3
    exact ⟨b, cap, C, g1, by rw [show lk B.blks n = lk A.blks n from h2]; exact g2, g3⟩
  | itr d n =>
    obtain ⟨b, cap, C, M, c, g1, g2, g3, g4, g5, g6⟩ := h3
    exact ⟨b, cap, C, M, c, g1, by rw [h2.1]; exact g2, g3, g4, by rw [h2.2]; exact g5, g6⟩
  | pin n b0 c0 f =>
    obtain ⟨C, g1, g2, g3⟩ := h3
    exact ⟨C, g1, by rw [show lk B.blks n = lk A.blks n from h2]; exact g2, g3⟩

/-- Every own block becomes memory that does not turn any more. -/
def frzV (bl : List (Nat × Blk)) : AV → AV
  | .tup l => .tup l
  | v => match toPV bl v with | some p => .pv p | none => .top
def frzE (bl : List (Nat × Blk)) : List (Nat × (Prop × AV)) → List (Nat × (Prop × AV))
  | [] => []
  | (t, (q, v)) :: r => (t, (q, frzV bl v)) :: frzE bl r
theorem lk_frzE (bl : List (Nat × Blk)) : ∀ (env : List (Nat × (Prop × AV))) (t : Nat) (q : Prop) (v : AV), lk (frzE bl env) t = some (q, v) → ∃ v', lk env t = some (q, v') ∧ v = frzV bl v'
  | [], t, q, v, h => by simp [frzE, lk] at h
  | (s, (q0, v0)) :: r, t, q, v, h => by
    rw [frzE, lk_cons] at h
    rw [lk_cons]
    split at h
    · rename_i e
      simp only [Option.some.injEq, Prod.mk.injEq] at h
      rw [if_pos e]
      exact ⟨v0, by rw [h.1], h.2.symm⟩
    · rename_i e
      rw [if_neg e]
      exact lk_frzE bl r t q v h
theorem Le.freeze : Le A { A with env := frzE A.blks A.env, blks := [] } := fun G Φ β a w hs => by
  refine ⟨frzAll Φ β A.blks w, fun _ => none, hs.frz_le, hs.kept, hs.frz_fits, fun b hk => ?_, hs.siz, hs.dfr, fun t q v h => ?_, fun n C b cap h1 => by simp [lk] at h1, fun n C h1 => by simp [lk] at h1, fun n n' C C' b c c' h1 => by simp [lk] at h1⟩
  · have hno : ¬ ownedBy β A.blks b := fun ⟨n, B, cap, h1, h2⟩ => (hs.blk n B b cap h1 h2).2.1 hk
    unfold frzAll
    rw [if_neg hno]
    exact hs.old b hk
  · obtain ⟨v', h1, rfl⟩ := lk_frzE _ _ _ _ _ h
    refine ⟨fun hq => ?_, (hs.env t q v' h1).2⟩
    have h3 := (hs.env t q v' h1).1 hq
    cases v' with
    | tup l => exact h3.mono hs.frz_le
    | pv p => exact PRel.mono hs.frz_le h3
    | top => trivial
    | mp n => trivial
    | itr d n => trivial
    | pin n b0 c0 f => trivial
    | addr n i off =>
      simp only [frzV]
      cases hq' : toPV A.blks (.addr n i off) with
      | none => trivial
      | some p => exact hs.toPV h3 hq'
    | slc n =>
      simp only [frzV]
      cases hq' : toPV A.blks (.slc n) with
      | none => trivial
      | some p => exact hs.toPV h3 hq'

/-- A nil slice in a slot becomes an own slice without memory, named n. -/
theorem Le.nilOwn {t n E sz : Nat} (ht : lk A.env t = some (True, .pv (.one .slnil))) (hob : Nat.ble mapTag E = false := by rfl) : Le A ((A.bind n n ⟨E, sz, []⟩).set t True (.slc n)) := fun G Φ β a w hs => by
  have hb := hs.bindNil (d := n) (n := n) (E := E) (sz := sz)
  refine ⟨Φ, _, Φ.le_refl, hb.kept, hb.fits, hb.old, hb.siz, hb.dfr, fun s q v h => ?_, hb.blk, hb.vir, hb.inj⟩
  simp only [St.set] at h
  rw [lk_cons] at h
  split at h
  · rename_i e; subst e
    simp only [Option.some.injEq, Prod.mk.injEq] at h
    obtain ⟨rfl, rfl⟩ := h
    refine ⟨fun _ => ⟨⟨E, sz, []⟩, by simp only [St.set, St.bind]; rw [lk_cons, if_pos rfl], hob, .inl ⟨by simp, ?_⟩⟩, fun h => (h trivial).elim⟩
    have h3 : Rel Φ (a.tmps.getD t undef) .slnil := (hs.env t True _ ht).1 trivial
    cases hv : a.tmps.getD t undef <;> rw [hv] at h3 <;> cases h3
    rfl
  · exact hb.env s q v h
/-- A slot's data read less exactly. -/
theorem Le.sub {t : Nat} {q : Prop} {p p' : PV} (ht : lk A.env t = some (q, .pv p)) (hp : PSub p p') : Le A (A.set t q (.pv p')) := fun G Φ β a w hs => by
  refine ⟨Φ, β, Φ.le_refl, hs.kept, hs.fits, hs.old, hs.siz, hs.dfr, fun s q' v h => ?_, hs.blk, hs.vir, hs.inj⟩
  simp only [St.set] at h
  rw [lk_cons] at h
  split at h
  · rename_i e; subst e
    simp only [Option.some.injEq, Prod.mk.injEq] at h
    obtain ⟨rfl, rfl⟩ := h
    exact ⟨fun hq => PRel.sub ((hs.env t q _ ht).1 hq) hp, (hs.env t q _ ht).2⟩
  · exact hs.env s q' v h
end
end Lf
