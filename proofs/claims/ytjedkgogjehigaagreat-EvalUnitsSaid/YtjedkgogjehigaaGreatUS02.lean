/-
  Part 2 of what the proof rests on.
-/
import Derived.Test.YtjedkgogjehigaaGreatUS01
section
set_option linter.unusedVariables false
set_option linter.unusedSimpArgs false
namespace Lf
open Go Go.RowKit
/-- Values, row by row. -/
structure RowsRel (Φ : Frz) (xs : List Value) (sz : Nat) (rows : List (List Cell)) : Prop where
  len : xs.length = rows.length * sz
  row : ∀ r ∈ rows, r.length = sz
  get : ∀ (i j : Nat) (r : List Cell) (c : Cell), rows[i]? = some r → r[j]? = some c → ∃ v, xs[i * sz + j]? = some v ∧ Rel Φ v c
theorem idx_lt {i n j sz : Nat} (hi : i < n) (hj : j < sz) : i * sz + j < n * sz := by
  calc i * sz + j < i * sz + sz := by omega
    _ = (i + 1) * sz := by rw [Nat.add_mul, Nat.one_mul]
    _ ≤ n * sz := Nat.mul_le_mul_right _ (by omega)
theorem RowsRel.append {Φ : Frz} {xs ys : List Value} {sz : Nat} {rs ss : List (List Cell)} (h : RowsRel Φ xs sz rs) (h' : RowsRel Φ ys sz ss) : RowsRel Φ (xs ++ ys) sz (rs ++ ss) where
  len := by simp [h.len, h'.len, Nat.add_mul]
  row := fun r hr => (List.mem_append.1 hr).elim (h.row r) (h'.row r)
  get := fun i j r c hi hj => by
    have hjl : ∀ (q : List (List Cell)), (∀ r ∈ q, r.length = sz) → r ∈ q → j < sz := fun q hq hm => by
      have := (List.getElem?_eq_some_iff.1 hj).1
      rw [hq r hm] at this; exact this
    rw [List.getElem?_append] at hi
    split at hi
    · rename_i hlt
      obtain ⟨v, h1, h2⟩ := h.get i j r c hi hj
      refine ⟨v, ?_, h2⟩
      rw [List.getElem?_append_left (by rw [h.len]; exact idx_lt hlt (hjl rs h.row (List.mem_of_getElem? hi)))]
      exact h1
    · rename_i hge
      obtain ⟨v, h1, h2⟩ := h'.get (i - rs.length) j r c hi hj
      refine ⟨v, ?_, h2⟩
      have e : i * sz + j = rs.length * sz + ((i - rs.length) * sz + j) := by
        have : i = rs.length + (i - rs.length) := by omega
        calc i * sz + j = (rs.length + (i - rs.length)) * sz + j := by rw [← this]
          _ = _ := by rw [Nat.add_mul]; omega
      rw [e, List.getElem?_append_right (by rw [h.len]; omega), h.len]
      rw [show rs.length * sz + ((i - rs.length) * sz + j) - rs.length * sz = (i - rs.length) * sz + j by omega]
      exact h1
theorem RowsRel.nil {Φ : Frz} {sz : Nat} : RowsRel Φ [] sz [] where
  len := by simp
  row := fun r h => by cases h
  get := fun i j r c hi => by simp at hi
theorem RowsRel.oneCell {Φ : Frz} {xs : List Value} {sz : Nat} {rs : List (List Cell)} (h : RowsRel Φ xs sz rs) : ∀ u ∈ xs, u.oneCell' = true := fun u hu => by
  obtain ⟨k, hk, rfl⟩ := List.mem_iff_getElem.1 hu
  have hlen := h.len
  have hsz : 0 < sz := by
    cases sz with
    | zero => simp at hlen; subst hlen; simp at hk
    | succ n => omega
  have h1 : k / sz < rs.length := by
    rw [Nat.div_lt_iff_lt_mul hsz]; omega
  have h2 : k % sz < sz := Nat.mod_lt _ hsz
  have h3 : (rs[k / sz]).length = sz := h.row _ (List.getElem_mem _)
  obtain ⟨v, h4, h5⟩ := h.get (k / sz) (k % sz) rs[k / sz] (rs[k / sz][k % sz]'(by omega)) (List.getElem?_eq_getElem _) (List.getElem?_eq_getElem _)
  have e : k / sz * sz + k % sz = k := by rw [Nat.mul_comm]; exact Nat.div_add_mod _ _
  rw [e, List.getElem?_eq_getElem hk] at h4
  simp only [Option.some.injEq] at h4
  rw [h4]; exact h5.one.2
section
variable {P : Program} {G : Ghost} {A : St} {Φ : Frz} {β : Own} {a : Act} {w w' : World}
theorem BlkRel.owns {b cap : Nat} {B : Blk} (h : BlkRel Φ w b cap B) (ho : B.ob = false) : ∃ xs, w.ownsRow 0 B.E B.sz (.slice (some ⟨b, 0, none⟩) B.rows.length cap) B.rows.length xs ∧ RowsRel Φ xs B.sz B.rows := by
  obtain ⟨cur, g1, g2, g3, g4, g5, g6⟩ := h.cells ho
  have hle : B.rows.length * B.sz ≤ cur.size := by rw [g4]; exact Nat.mul_le_mul_right _ g2
  refine ⟨cur.toList.take (B.rows.length * B.sz), ⟨by simp; omega, .inr ⟨b, cap, cur, rfl, Nat.zero_le _, g1, g2, g3, g4, rfl⟩⟩, ⟨by simp; omega, g5, fun i j r c hi hj => ?_⟩⟩
  obtain ⟨v, h1, h2⟩ := g6 i j r c hi hj
  refine ⟨v, ?_, h2⟩
  have hlt := idx_lt (List.getElem?_eq_some_iff.1 hi).1 (by have := (List.getElem?_eq_some_iff.1 hj).1; rwa [g5 r (List.mem_of_getElem? hi)] at this : j < B.sz)
  rw [List.getElem?_take, if_pos hlt]
  simpa using h1
theorem BlkRel.of_owns {b cap E sz n : Nat} {rows : List (List Cell)} {xs : List Value} (h : w.ownsRow 0 E sz (.slice (some ⟨b, 0, none⟩) n cap) n xs) (hr : RowsRel Φ xs sz rows) (hn : rows.length = n) (ho : Nat.ble mapTag E = false) :
    BlkRel Φ w b cap ⟨E, sz, rows⟩ := by
  obtain ⟨hl, h⟩ := h
  rcases h with ⟨h, _⟩ | ⟨g, c, cur, h1, _, h2, h3, h4, h5, h6⟩
  · cases h
  · simp only [Value.slice.injEq, Option.some.injEq, Addr.mk.injEq, and_true, true_and] at h1
    obtain ⟨rfl, rfl⟩ := h1
    refine .inl ⟨ho, cur, h2, by simpa [hn] using h3, h4, h5, hr.row, fun i j r c hi hj => ?_⟩
    obtain ⟨v, k1, k2⟩ := hr.get i j r c hi hj
    refine ⟨v, ?_, k2⟩
    rw [← h6, List.getElem?_take] at k1
    split at k1
    · simpa using k1
    · cases k1
/-- The elements of a slice value, as1 the machine sees them. -/
def Src (Φ : Frz) (w : World) (v : Value) (sz : Nat) (rows : List (List Cell)) : Prop :=
  (v = .slice none 0 0 ∧ rows = []) ∨ ∃ ad cap xs, v = .slice (some ad) rows.length cap ∧ RowsRel Φ xs sz rows ∧ ∀ (j : Nat) (u : Value), xs[j]? = some u → w.cell? (ad.add j) = some u
theorem src_own (hs : Sat G Φ β A a w) {v : Value} {n : Nat} {B : Blk} (h : AVRel Φ β A.blks v (.slc n)) (hl : lk A.blks n = some B) : Src Φ w v B.sz B.rows := by
  obtain ⟨B', h1, hob, h2⟩ := h
  obtain rfl : B = B' := by rw [hl] at h1; exact Option.some.inj h1
  rcases h2 with ⟨h2, rfl⟩ | ⟨b, cap, h2, rfl⟩
  · exact .inl ⟨rfl, hs.vir n B h1 h2⟩
  · obtain ⟨xs, k1, k2⟩ := (hs.blk n B b cap h1 h2).1.owns hob
    exact .inr ⟨⟨b, 0, none⟩, cap, xs, rfl, k2, k1.cells (g := b) rfl⟩
theorem src_data (hf : Fits Φ w) {v : Value} {sz : Nat} {rows : List (List Cell)} (h : Rel Φ v (.sl rows)) (hsz : ∀ r ∈ rows, r.length = sz) (hz : 0 < sz) : Src Φ w v sz rows := by
  cases h with
  | sl0 => exact .inl ⟨rfl, rfl⟩
  | slE a cap => exact .inr ⟨a, cap, [], rfl, RowsRel.nil, fun j u h => by simp at h⟩
  | sl b off len cap sz' _ f hlen hcap hsz' hc hr =>
    by_cases he : rows = []
    · subst he
      refine .inr ⟨⟨b, off, none⟩, cap, [], by rw [← hlen], RowsRel.nil, fun j u h => by simp at h⟩
    · obtain ⟨r0, hr0⟩ := List.exists_mem_of_ne_nil rows he
      obtain rfl : sz = sz' := by rw [← hsz r0 hr0, hsz' r0 hr0]
      have hk : ∀ k, k < rows.length * sz → ∃ (r : List Cell) (c : Cell), rows[k / sz]? = some r ∧ r[k % sz]? = some c := fun k hk => by
        have h1 : k / sz < rows.length := by rw [Nat.div_lt_iff_lt_mul hz]; omega
        have h2 : k % sz < sz := Nat.mod_lt _ hz
        have h3 : (rows[k / sz]).length = sz := hsz _ (List.getElem_mem _)
        exact ⟨rows[k / sz], rows[k / sz][k % sz]'(by omega), List.getElem?_eq_getElem _, List.getElem?_eq_getElem _⟩
      refine .inr ⟨⟨b, off, none⟩, cap, (List.range (rows.length * sz)).map fun k => f (k / sz) (k % sz), by rw [hlen], ⟨by simp, hsz, fun i j r c hi hj => ?_⟩, fun j u hu => ?_⟩
      · have hj' : j < sz := by have := (List.getElem?_eq_some_iff.1 hj).1; rwa [hsz r (List.mem_of_getElem? hi)] at this
        have hlt := idx_lt (List.getElem?_eq_some_iff.1 hi).1 hj'
        have e1 : (i * sz + j) / sz = i := by rw [Nat.mul_comm, Nat.mul_add_div hz, Nat.div_eq_of_lt hj', Nat.add_zero]
        have e2 : (i * sz + j) % sz = j := by rw [Nat.mul_comm, Nat.mul_add_mod, Nat.mod_eq_of_lt hj']
        exact ⟨f i j, by simp [List.getElem?_range hlt, e1, e2], hr i j r c hi hj⟩
      · have hlt : j < rows.length * sz := by
          have := (List.getElem?_eq_some_iff.1 hu).1
          simpa using this
        simp only [List.getElem?_map, List.getElem?_range hlt, Option.map_some, Option.some.injEq] at hu
        subst hu
        obtain ⟨r, c, k1, k2⟩ := hk j hlt
        have := fits_cell hf (hc _ _ _ _ k1 k2)
        rw [Addr.add_lit]
        have e : j / sz * sz + j % sz = j := by rw [Nat.mul_comm]; exact Nat.div_add_mod _ _
        rw [e] at this
        exact this
variable {T : TT} (hT : TOK P T)
include hT
omit hT in
theorem appendcall_run {ρ : Operand → Value} {o : Oper} {t : Nat} {x y : Operand} (ho : o.op = .call { callee := .builtin .append, args := #[x, y], argTypes := #[t, t] }) {w w' : World} {v : Value}
    (h : (Builtin.append_ #[t, t] o.type #[ρ x, ρ y]).run P w = .ok v w') : (execOp ρ o).run P w = .ok (.value v) w' := by
  have e : execOp ρ o = (do let d ← resolve ρ { callee := .builtin .append, args := #[x, y], argTypes := #[t, t] } o.type; invoke d.target d.args) := by simp only [execOp, ho]
  rw [e]
  have hm : (#[x, y] : Array Operand).map ρ = #[ρ x, ρ y] := by simp
  simp only [resolve, pure_bind, invoke]
  show ((do pure (Next.value (← Builtin.append_ #[t, t] o.type ((#[x, y] : Array Operand).map ρ))) : Sem Next)).run P w = _
  rw [hm]
  simp [h]
omit hT in
theorem bindOwn_self {d n b cap : Nat} : bindOwn β d n b cap d = some (b, cap) := if_pos rfl
omit hT in
/-- Name d names an empty slice that has no memory. -/
theorem Sat.bindNil (hs : Sat G Φ β A a w) {d n E sz : Nat} : Sat G Φ (fun m => if m = d ∨ m = n then none else β m) (A.bind d n ⟨E, sz, []⟩) a w := by
  have hl : ∀ m, m ≠ d → m ≠ n → lk (A.bind d n ⟨E, sz, []⟩).blks m = lk A.blks m := fun m h1 h2 => by simp only [St.bind]; rw [lk_cons, if_neg (Ne.symm h1), lk_cons, if_neg (Ne.symm h2)]
  refine ⟨hs.kept, hs.fits, hs.old, hs.siz, hs.dfr, fun t q v h => ?_, fun m B' b' cap' h1 h2 => ?_, fun m B' h1 h2 => ?_, fun m m' B1 B2 b' c1 c2 h1 h2 h3 h4 => ?_⟩
  · obtain ⟨v1, h1, rfl⟩ := lk_fgt d _ t q v h
    obtain ⟨v2, h2, rfl⟩ := lk_fgt n _ t q v1 h1
    refine ⟨fun hq => ?_, (hs.env t q v2 h2).2⟩
    have h3 := (hs.env t q v2 h2).1 hq
    cases hn : v2.ment n with
    | true => simp only [cond_true, AV.ment, cond_false]; trivial
    | false =>
      simp only [cond_false]
      cases hd : v2.ment d with
      | true => simp only [cond_true]; trivial
      | false =>
        simp only [cond_false]
        cases v2 with
        | pv p => exact h3
        | tup l => exact h3
        | top => trivial
        | addr m i off =>
          have e1 : m ≠ d := fun e => by subst e; simp [AV.ment] at hd
          have e2 : m ≠ n := fun e => by subst e; simp [AV.ment] at hn
          obtain ⟨b', cap', B', g1, g2, g3⟩ := h3
          exact ⟨b', cap', B', by simp [e1, e2, g1], by rw [hl m e1 e2]; exact g2, g3⟩
        | slc m =>
          have e1 : m ≠ d := fun e => by subst e; simp [AV.ment] at hd
          have e2 : m ≠ n := fun e => by subst e; simp [AV.ment] at hn
          obtain ⟨B', g2, g3⟩ := h3
          exact ⟨B', by rw [hl m e1 e2]; exact g2, by simpa [e1, e2] using g3⟩
        | mp m =>
          have e1 : m ≠ d := fun e => by subst e; simp [AV.ment] at hd
          have e2 : m ≠ n := fun e => by subst e; simp [AV.ment] at hn
          obtain ⟨b', cap', B', g1, g2, g3⟩ := h3
          exact ⟨b', cap', B', by simp [e1, e2, g1], by rw [hl m e1 e2]; exact g2, g3⟩
        | mpn m bb =>
          have e1 : m ≠ d := fun e => by subst e; simp [AV.ment] at hd
          have e2 : m ≠ n := fun e => by subst e; simp [AV.ment] at hn
          obtain ⟨b', cap', B', g1, g2, g3⟩ := h3
          exact ⟨b', cap', B', by simp [e1, e2, g1], by rw [hl m e1 e2]; exact g2, g3⟩
        | itr k m =>
          have e1 : m ≠ d := fun e => by subst e; simp [AV.ment] at hd
          have e2 : m ≠ n := fun e => by subst e; simp [AV.ment] at hn
          have e3 : k ≠ d := fun e => by subst e; simp [AV.ment] at hd
          have e4 : k ≠ n := fun e => by subst e; simp [AV.ment] at hn
          obtain ⟨b', cap', B', M, c, g1, g2, g3, g4, g5, g6⟩ := h3
          exact ⟨b', cap', B', M, c, by simp [e3, e4, g1], by rw [hl k e3 e4]; exact g2, g3, by simp [e1, e2, g4], by rw [hl m e1 e2]; exact g5, g6⟩
        | pin m b0 c0 f =>
          have e1 : m ≠ d := fun e => by subst e; simp [AV.ment] at hd
          have e2 : m ≠ n := fun e => by subst e; simp [AV.ment] at hn
          obtain ⟨B', g1, g2, g3⟩ := h3
          exact ⟨B', by simp [e1, e2, g1], by rw [hl m e1 e2]; exact g2, g3⟩
  · by_cases e : m = d ∨ m = n
    · simp [e] at h2
    · simp only [e, if_false] at h2
      exact hs.blk m B' b' cap' (by rw [← hl m (fun x => e (.inl x)) (fun x => e (.inr x))]; exact h1) h2
  · by_cases e1 : m = d
    · simp only [St.bind] at h1
      rw [lk_cons, if_pos e1.symm] at h1
      obtain rfl := Option.some.inj h1; rfl
    · by_cases e2 : m = n
      · simp only [St.bind] at h1
        rw [lk_cons, if_neg (Ne.symm e1), lk_cons, if_pos e2.symm] at h1
        obtain rfl := Option.some.inj h1; rfl
      · have e : ¬ (m = d ∨ m = n) := fun h => h.elim e1 e2
        simp only [e, if_false] at h2
        exact hs.vir m B' (by rw [← hl m e1 e2]; exact h1) h2
  · have e : ¬ (m = d ∨ m = n) := fun e => by simp [e] at h3
    have e' : ¬ (m' = d ∨ m' = n) := fun e => by simp [e] at h4
    simp only [e, if_false] at h3
    simp only [e', if_false] at h4
    exact hs.inj m m' B1 B2 b' c1 c2 (by rw [← hl m (fun x => e (.inl x)) (fun x => e (.inr x))]; exact h1) (by rw [← hl m' (fun x => e' (.inl x)) (fun x => e' (.inr x))]; exact h2) h3 h4
omit hT in
theorem Sat.putSlc (hs : Sat G Φ β A a w) {d b cap : Nat} {B : Blk} (hn : d < A.n) (hl : lk A.blks d = some B) (hob : B.ob = false) (hb : β d = some (b, cap)) : Sat G Φ β (A.set d True (.slc d)) (a.put (some d) (.slice (some ⟨b, 0, none⟩) B.rows.length cap)) w :=
  hs.put hn ⟨B, hl, hob, .inr ⟨b, cap, hb, rfl⟩⟩
omit hT in
theorem Sat.putNil (hs : Sat G Φ β A a w) {d : Nat} {B : Blk} (hn : d < A.n) (hl : lk A.blks d = some B) (hob : B.ob = false) (hb : β d = none) : Sat G Φ β (A.set d True (.slc d)) (a.put (some d) (.slice none 0 0)) w :=
  hs.put hn ⟨B, hl, hob, .inl ⟨hb, rfl⟩⟩
omit hT in
theorem append_new {d n e need cap : Nat} {te : TI} {sz : Nat} {xs : List Value} {rows : List (List Cell)} {z : Value} (hob : Nat.ble mapTag e = false) (hn : d < A.n) (hzs : z.cells.size = sz) (hs : Sat G Φ β A a w) (hx : RowsRel Φ xs sz rows) (hlen : rows.length = need) (hge : need ≤ cap) (hcm : cap ≤ maxLen) :
    Sat G Φ (bindOwn β d n w.heap.size cap) ((A.bind d n ⟨e, sz, rows⟩).set d True (.slc d)) (a.put (some d) (.slice (some ⟨w.heap.size, 0, none⟩) need cap)) (w.drew.alloc (.cells (xs.toArray ++ Builtin.zeroCells z.cells (cap - need)) e)) := by
  obtain ⟨h1, h2, h3⟩ := hs.new_ok
  have hb := hs.bind (w' := w.drew.alloc (.cells (xs.toArray ++ Builtin.zeroCells z.cells (cap - need)) e)) (d := d) (n := n) (b := w.heap.size) (cap := cap) (B := ⟨e, sz, rows⟩) (row := none) ⟨rfl, rfl, rfl, by simp, fun k hk _ => heap_alloc_old w.drew _ hk⟩ (fun k e => by cases e)
    (.inl ⟨hob, _, heap_alloc_new w.drew _, by simp [hlen, hge], hcm, by simp only [Array.size_append, List.size_toArray, size_zeroCells, hzs, hx.len, hlen, ← Nat.add_mul]; congr 1; omega, hx.row, fun i j r c hi hj => ?_⟩) h1 h2 (fun m B' cap' _ _ h => h3 m B' cap' h)
  · have := hb.putSlc (d := d) hn (by simp only [St.bind]; rw [lk_cons, if_pos rfl]) (by exact hob) bindOwn_self
    simpa [hlen] using this
  · obtain ⟨v, k1, k2⟩ := hx.get i j r c hi hj
    refine ⟨v, ?_, k2⟩
    have hlt := (List.getElem?_eq_some_iff.1 k1).1
    rw [Array.getElem?_append_left (by simpa using hlt)]
    simpa using k1
/-- append to an own slice (or to nil). -/
theorem append_any {o : Oper} {t e d n : Nat} {x y : Operand} {ti te : TI} {sz : Nat} {rows rows2 : List (List Cell)} (ho : o.op = .call { callee := .builtin .append, args := #[x, y], argTypes := #[t, t] })
    (hd : o.dst = some d) (hn : d < A.n) (ht : T t = some ti) (hk : ti.kind = .slice e) (he : T e = some te) (hzl : te.zero.cells.length = te.sz) (hsz : te.sz = sz) (hz : 0 < sz)
    (hb : (rows.length + rows2.length) * te.bytes ≤ 140737488355328) (hb' : rows.length + rows2.length ≤ 140737488355328)
    (hs : Sat G Φ β A a w) (hx : (a.eval x = .slice none 0 0 ∧ rows = []) ∨ ∃ b cap, a.eval x = .slice (some ⟨b, 0, none⟩) rows.length cap ∧ BlkRel Φ w b cap ⟨e, sz, rows⟩ ∧ ¬ G.K b ∧ Φ b = none ∧ ∀ m B' cap', m ≠ d → m ≠ n → lk A.blks m = some B' → β m ≠ some (b, cap'))
    (hy : Src Φ w (a.eval y) sz rows2) :
    ∃ u w' Φ' β', (execOp a.eval o).run P w = .ok (.value u) w' ∧ Sat G Φ' β' ((A.bind d n ⟨e, sz, rows ++ rows2⟩).set d True (.slc d)) (a.put o.dst u) w' ∧ Φ.le Φ' := by
  have hu : P.underlying t = some (.slice e) := by have := (hT _ _ ht).kind; rw [hk] at this; exact this
  obtain ⟨i, hi, hisz, hib, z, hzz, hrel⟩ := (hT e te he).info
  have hzs : z.cells.size = sz := by have := (hrel Φ).cells.length; rw [← hsz, ← hzl, ← this]; simp
  have hml : rows.length + rows2.length ≤ maxLen := by unfold maxLen; omega
  have hi2 : i.size = sz := by rw [hisz, hsz]
  subst hi2
  rw [hd]
  have hob : Nat.ble mapTag e = false := (hT e te he).small
  have nilv : ∀ (E sz : Nat), lk (A.bind d n ⟨E, sz, []⟩).blks d = some ⟨E, sz, []⟩ := fun E sz => by simp only [St.bind]; rw [lk_cons, if_pos rfl]
  rcases hx with ⟨hxv, rfl⟩ | ⟨b, cap, hxv, hblk, hK, hP, hoth⟩
  · -- onto nothing
    rcases hy with ⟨hyv, rfl⟩ | ⟨ad, capy, ys, hyv, hys, hcells⟩
    · refine ⟨.slice none 0 0, w, Φ, _, appendcall_run ho ?_, (hs.bindNil (d := d) (n := n) (E := e) (sz := i.size)).putNil hn (nilv _ _) hob (by simp), Φ.le_refl⟩
      rw [hxv, hyv]
      exact run_append_owned_none w 0 t o.type e i i.size hu hi _ _ _ (World.ownsRow_nil w 0 e i.size)
    · by_cases hm : rows2.length = 0
      · have hr2 : rows2 = [] := List.eq_nil_of_length_eq_zero hm
        subst hr2
        obtain ⟨v', w', k1, k2, k3, k4⟩ := run_append_own (P := P) w 0 t o.type e i z i.size i.bytes hu hi hzz rfl rfl hzs hz _ _ _ (World.ownsRow_nil w 0 e i.size) ad 0 capy ys (by simpa using hys.len) hcells hys.oneCell (by simp [maxLen]) (by simp) (Nat.zero_le _)
        have hv' : v' = .slice none 0 0 := k4.2 ⟨rfl, rfl⟩
        subst hv'
        have hys0 : ys = [] := List.eq_nil_of_length_eq_zero (by simpa using hys.len)
        subst hys0
        have hrun : (Builtin.append_ #[t, t] o.type #[.slice none 0 0, .slice (some ad) 0 capy]).run P w = .ok (.slice none 0 0) w := by
          simp [Builtin.append_, run_underlying hu, Go.sizeOf, typeInfo, hi, Builtin.lenOf, Builtin.firstCells, loadCells, loadCellsFrom]
        refine ⟨.slice none 0 0, w, Φ, _, appendcall_run ho ?_, (hs.bindNil (d := d) (n := n) (E := e) (sz := i.size)).putNil hn (nilv _ _) hob (by simp), Φ.le_refl⟩
        rw [hxv, hyv]; exact hrun
      · have hr := run_append_nil (P := P) w t o.type e i z hu hi hzz ad rows2.length capy ys hys.len hcells (by omega) (by simp at hb'; omega) (by simp only [List.length_nil, Nat.zero_add] at hb; rw [hib]; omega)
        refine ⟨_, _, Φ, _, appendcall_run ho (by rw [hxv, hyv]; exact hr), append_new (te := te) hob hn hzs hs (by simpa using hys) (by simp) (grownCap_ge w _ _ _) (grownCap_le_maxLen w _ _ _ (by simpa using hml)), Φ.le_refl⟩
  · obtain ⟨xs, hown, hxs⟩ := hblk.owns hob
    simp only at hown hxs
    rcases hy with ⟨hyv, rfl⟩ | ⟨ad, capy, ys, hyv, hys, hcells⟩
    · have hb2 := hs.bind (w' := w) (d := d) (n := n) (b := b) (cap := cap) (B := ⟨e, i.size, rows⟩) (row := none) ⟨rfl, rfl, rfl, Nat.le_refl _, fun _ _ _ => rfl⟩ (fun k e => by cases e) hblk hK hP hoth
      have := hb2.putSlc (d := d) hn (by simp only [St.bind]; rw [lk_cons, if_pos rfl]) (by exact hob) bindOwn_self
      refine ⟨.slice (some ⟨b, 0, none⟩) rows.length cap, w, Φ, _, appendcall_run ho ?_, by simpa using this, Φ.le_refl⟩
      rw [hxv, hyv]
      exact run_append_owned_none w 0 t o.type e i i.size hu hi _ _ _ hown
    · by_cases hroom : rows.length + rows2.length ≤ cap
      · obtain ⟨w', k1, k2, k3⟩ := run_append_fits (P := P) w 0 t o.type e i i.size hu hi rfl b rows.length cap xs hown ad rows2.length capy ys hys.len hcells hys.oneCell hroom
        have hb2 := hs.bind (w' := w') (d := d) (n := n) (b := b) (cap := cap) (B := ⟨e, i.size, rows ++ rows2⟩) (row := some b) k3 (fun k e => by cases e; rfl) (BlkRel.of_owns k2 (hxs.append hys) (by simp) hob) hK hP hoth
        have := hb2.putSlc (d := d) hn (by simp only [St.bind]; rw [lk_cons, if_pos rfl]) (by exact hob) bindOwn_self
        exact ⟨_, w', Φ, _, appendcall_run ho (by rw [hxv, hyv]; exact k1), by simpa using this, Φ.le_refl⟩
      · have hr := run_append_grow (P := P) w t o.type e i z hu hi hzz ⟨b, 0, none⟩ rows.length cap xs hown.1 (hown.cells (g := b) rfl) ad rows2.length capy ys hys.len hcells (by omega) (by omega) (growslice_fits (by omega) (by rw [hib]; exact hb))
        have hnew := append_new (te := te) (d := d) (n := n) (e := e) (z := z) (cap := grownCap w (rows.length + rows2.length) cap e) hob hn hzs hs (hxs.append hys) (by simp) (grownCap_ge w _ _ _) (grownCap_le_maxLen w _ _ _ hml)
        have ea : (xs ++ ys).toArray = xs.toArray ++ ys.toArray := by simp
        rw [ea] at hnew
        exact ⟨_, _, Φ, _, appendcall_run ho (by rw [hxv, hyv]; exact hr), hnew, Φ.le_refl⟩
/-- append to an own slice: the old one is not looked at any more. -/
theorem E_append {o : Oper} {t e d n m : Nat} {x y : Operand} {ti te : TI} {B C : Blk} (ho : o.op = .call { callee := .builtin .append, args := #[x, y], argTypes := #[t, t] })
    (hd : o.dst = some d) (hn : d < A.n) (ht : T t = some ti) (hk : ti.kind = .slice e) (he : T e = some te) (hzl : te.zero.cells.length = te.sz) (hz : 0 < te.sz)
    (hx : Ev A True x (.slc n)) (hl : lk A.blks n = some B) (hE : B.E = e) (hsz : B.sz = te.sz)
    (hy : Ev A True y (.slc m)) (hm : lk A.blks m = some C) (hCsz : C.sz = te.sz) (hdm : d = n ∨ lk A.blks d = none ∨ d ≠ n)
    (hb : (B.rows.length + C.rows.length) * te.bytes ≤ 140737488355328) (hb' : B.rows.length + C.rows.length ≤ 140737488355328) :
    EffOp P G A o ((A.bind d n ⟨e, te.sz, B.rows ++ C.rows⟩).set d True (.slc d)) := EffOp.of_val fun Φ β a w hs => by
  obtain ⟨B', h1, hob, h2⟩ := hs.ev hx trivial
  obtain rfl : B = B' := by rw [hl] at h1; exact Option.some.inj h1
  have hsrc := src_own hs (hs.ev hy trivial) hm
  rw [hCsz] at hsrc
  refine append_any hT (n := n) ho hd hn ht hk he hzl rfl hz hb hb' hs ?_ hsrc
  rcases h2 with ⟨h2, h3⟩ | ⟨b, cap, h2, h3⟩
  · exact .inl ⟨h3, hs.vir n B hl h2⟩
  · obtain ⟨g1, g2, g3⟩ := hs.blk n B b cap hl h2
    refine .inr ⟨b, cap, h3, ?_, g2, g3, fun m' B' cap' e1 e2 q1 q2 => e2 (hs.inj m' n B' B b cap' cap q1 hl q2 h2)⟩
    obtain ⟨E', sz', rows'⟩ := B
    simp only at hE hsz
    subst hE hsz
    exact g1
theorem E_append_data {o : Oper} {t e d n : Nat} {x y : Operand} {ti te : TI} {B : Blk} {rows2 : List (List Cell)} (ho : o.op = .call { callee := .builtin .append, args := #[x, y], argTypes := #[t, t] })
    (hd : o.dst = some d) (hn : d < A.n) (ht : T t = some ti) (hk : ti.kind = .slice e) (he : T e = some te) (hzl : te.zero.cells.length = te.sz) (hz : 0 < te.sz)
    (hx : Ev A True x (.slc n)) (hl : lk A.blks n = some B) (hE : B.E = e) (hsz : B.sz = te.sz)
    (hy : Ev A True y (.pv (.one (.sl rows2)))) (hrows : ∀ r ∈ rows2, r.length = te.sz)
    (hb : (B.rows.length + rows2.length) * te.bytes ≤ 140737488355328) (hb' : B.rows.length + rows2.length ≤ 140737488355328) :
    EffOp P G A o ((A.bind d n ⟨e, te.sz, B.rows ++ rows2⟩).set d True (.slc d)) := EffOp.of_val fun Φ β a w hs => by
  obtain ⟨B', h1, hob, h2⟩ := hs.ev hx trivial
  obtain rfl : B = B' := by rw [hl] at h1; exact Option.some.inj h1
  refine append_any hT (n := n) ho hd hn ht hk he hzl rfl hz hb hb' hs ?_ (src_data hs.fits (hs.ev hy trivial) hrows hz)
  rcases h2 with ⟨h2, h3⟩ | ⟨b, cap, h2, h3⟩
  · exact .inl ⟨h3, hs.vir n B hl h2⟩
  · obtain ⟨g1, g2, g3⟩ := hs.blk n B b cap hl h2
    refine .inr ⟨b, cap, h3, ?_, g2, g3, fun m' B' cap' e1 e2 q1 q2 => e2 (hs.inj m' n B' B b cap' cap q1 hl q2 h2)⟩
    obtain ⟨E', sz', rows'⟩ := B
    simp only at hE hsz
    subst hE hsz
    exact g1
/-- make([]T, n). -/
theorem E_make {o : Oper} {t e d : Nat} {x y : Operand} {kx ky : IntKind} {m c : Int} {ti te : TI} (ho : o.op = .makeSlice t x y) (hd : o.dst = some d) (hn : d < A.n) (ht : T t = some ti) (hk : ti.kind = .slice e) (he : T e = some te)
    (hzl : te.zero.cells.length = te.sz) (hx : Ev A True x (.pv (.one (.int kx m)))) (hy : Ev A True y (.pv (.one (.int ky c)))) (h0 : 0 ≤ m) (hmc : m ≤ c) (hc : c * te.bytes ≤ 281474976710656) (hc' : c ≤ 281474976710656) :
    EffOp P G A o ((A.bind d d ⟨e, te.sz, List.replicate m.toNat te.zero.cells⟩).set d True (.slc d)) := EffOp.of_val fun Φ β a w hs => by
  have hu : P.underlying t = some (.slice e) := by have := (hT _ _ ht).kind; rw [hk] at this; exact this
  obtain ⟨i, hi, hisz, hib, z, hzz, hrel⟩ := (hT e te he).info
  have hzr := (hrel Φ).cells
  have hzs : z.cells.size = te.sz := by have := hzr.length; rw [← hzl, ← this]; simp
  have hr := run_make (P := P) w t e i z hu hi hzz kx ky m c h0 hmc (by rw [hib, Int.mul_comm]; exact hc) (by omega)
  have hrun : (execOp a.eval o).run P w = .ok (.value (.slice (some ⟨w.heap.size, 0, none⟩) m.toNat c.toNat)) (w.alloc (.cells (madeCells z.cells (c.toNat * i.size)) e)) :=
    exec_val (m := Instr.makeSlice t (a.eval x) (a.eval y)) (by simp only [execOp, ho]) (by rw [AVRel.int (hs.ev hx trivial), AVRel.int (hs.ev hy trivial)]; exact hr)
  refine ⟨_, _, Φ, bindOwn β d d w.heap.size c.toNat, hrun, ?_, Φ.le_refl⟩
  rw [hd]
  have hob : Nat.ble mapTag e = false := (hT e te he).small
  have hall := hs.alloc (d := d) (cap := c.toNat) (B := ⟨e, te.sz, List.replicate m.toNat te.zero.cells⟩) (cur := madeCells z.cells (c.toNat * i.size)) hob (by simp [size_madeCells, hisz]) (by simp; omega) (by unfold maxLen; omega)
    (fun r hr => by rw [List.eq_of_mem_replicate hr]; exact hzl) (fun k j r x hk hj => ?_)
  · have := hall.putSlc (d := d) hn (by simp only [St.bind]; rw [lk_cons, if_pos rfl]) (by exact hob) bindOwn_self
    simpa using this
  · simp only [List.getElem?_replicate] at hk
    split at hk
    · rename_i hlt
      obtain rfl := Option.some.inj hk
      obtain ⟨v, q1, q2⟩ := relL_get' hzr hj
      refine ⟨v, ?_, q2⟩
      have hjl : j < te.sz := by rw [← hzl]; exact (List.getElem?_eq_some_iff.1 hj).1
      have hlt2 : k * te.sz + j < c.toNat * i.size := by rw [hisz]; exact idx_lt (by omega) hjl
      have hmod : (k * te.sz + j) % te.sz = j := by rw [Nat.mul_comm, Nat.mul_add_mod, Nat.mod_eq_of_lt hjl]
      have hjz : j < z.cells.size := by omega
      simp only [madeCells, Array.getElem?_map, Array.getElem?_range, hlt2, if_true, Option.map_some, hzs, hmod]
      rw [Array.getElem?_eq_getElem hjz] at q1
      simp only [Option.some.injEq] at q1
      rw [getElem!_pos z.cells j hjz, q1]
    · cases hk
end
end Lf
end
section
set_option linter.unusedVariables false
set_option linter.unusedSimpArgs false
namespace Lf
open Go Go.RowKit
section
variable {P : Program} {G : Ghost} {A : St} {Φ : Frz} {β : Own} {a : Act} {w w' : World}
/-- The parts of a literal: places and data. -/
def EvP (A : St) (p : Prop) : List (Nat × Operand) → List (Nat × PV) → Prop
  | [], [] => True
  | (i, x) :: xs, (j, q) :: qs => (i = j ∧ ∃ av, Ev A p x av ∧ toPV A.blks av = some q ∧ av = .pv q) ∧ EvP A p xs qs
  | _, _ => False
/-- The cells of a literal: what is not named keeps its zero. -/
def fillC (place : Nat → Option (Nat × Nat)) (cells : List Cell) : List (Nat × PV) → Option (List Cell)
  | [] => some cells
  | (i, q) :: rest =>
    match place i with
    | none => none
    | some (off, size) => bif Nat.beq q.cells.length size && Nat.ble (off + size) cells.length then fillC place (splice cells off q.cells) rest else none
theorem foldl_set (cells : Array Value) : ∀ (vs : List Value) (cur : Array Value) (off k : Nat), off + k + vs.length ≤ cur.size →
    (vs.zipIdx k).foldl (fun cs (x : Value × Nat) => cs.setIfInBounds (off + x.2) x.1) cur = (cur.toList.take (off + k) ++ vs ++ cur.toList.drop (off + k + vs.length)).toArray
  | [], cur, off, k, h => by simp
  | v :: vs, cur, off, k, h => by
    have hl : off + k < cur.size := by simp at h; omega
    simp only [List.zipIdx_cons, List.foldl_cons]
    rw [foldl_set cells vs (cur.setIfInBounds (off + k) v) off (k + 1) (by simp at h ⊢; omega)]
    have e := list_seg_step cur.toList (off + k) v vs (by simp at h ⊢; omega)
    congr 1
    simpa [Array.toList_setIfInBounds, Nat.add_assoc] using e
theorem relL_splice {vs us : List Value} {cs ds : List Cell} {off : Nat} (h : RelL Φ vs cs) (h' : RelL Φ us ds) (hf : off + ds.length ≤ cs.length) : RelL Φ (vs.take off ++ us ++ vs.drop (off + us.length)) (splice cs off ds) := by
  have h1 := h.length
  have h2 := h'.length
  have ht : ∀ (n : Nat), RelL Φ (vs.take n) (cs.take n) := fun n => RelL.of_get (by simp [h1]) fun j c hj => by
    rw [List.getElem?_take] at hj
    split at hj
    · rename_i hjn
      obtain ⟨v, k1, k2⟩ := h.get hj
      exact ⟨v, by rw [List.getElem?_take, if_pos hjn]; exact k1, k2⟩
    · cases hj
  have hd : ∀ (n : Nat), RelL Φ (vs.drop n) (cs.drop n) := fun n => RelL.of_get (by simp [h1]) fun j c hj => by
    rw [List.getElem?_drop] at hj
    obtain ⟨v, k1, k2⟩ := h.get hj
    exact ⟨v, by rw [List.getElem?_drop]; exact k1, k2⟩
  unfold splice
  rw [h2]
  exact ((ht off).append h').append (hd _)
theorem fill_run {place : Nat → Option (Nat × Nat)} (hs : Sat G Φ β A a w) {p : Prop} (hp : p) : ∀ {ps : List (Nat × Operand)} {qs : List (Nat × PV)} {cells : Array Value} {cs res : List Cell}, EvP A p ps qs → RelL Φ cells.toList cs → fillC place cs qs = some res →
    ∃ out : Array Value, Instr.fill place cells (ps.map fun (i, x) => (i, a.eval x)) = some out ∧ RelL Φ out.toList res
  | [], [], cells, cs, res, _, hc, hf => by
    simp only [fillC, Option.some.injEq] at hf; subst hf
    exact ⟨cells, rfl, hc⟩
  | (i, x) :: ps, (j, q) :: qs, cells, cs, res, h, hc, hf => by
    obtain ⟨⟨rfl, av, h1, _, rfl⟩, h3⟩ := h
    have hv := PRel.cells (show PRel Φ (a.eval x) q from hs.ev h1 hp)
    simp only [fillC] at hf
    cases hpl : place i with
    | none => rw [hpl] at hf; cases hf
    | some os =>
      obtain ⟨off, size⟩ := os
      rw [hpl] at hf
      simp only at hf
      cases hb : Nat.beq q.cells.length size && Nat.ble (off + size) cs.length with
      | false => rw [hb] at hf; cases hf
      | true =>
        rw [hb] at hf
        simp only [cond_true] at hf
        simp only [Bool.and_eq_true] at hb
        have e1 : q.cells.length = size := Nat.eq_of_beq_eq_true hb.1
        have e2 : off + size ≤ cs.length := Nat.le_of_ble_eq_true hb.2
        have e3 : (a.eval x).cells.size = size := by have := hv.length; rw [← e1, ← this]; simp
        have e4 : cells.size = cs.length := by have := hc.length; rw [← this]; simp
        have hsp := relL_splice (Φ := Φ) hc hv (off := off) (by rw [e1]; exact e2)
        have hfold : (a.eval x).cells.zipIdx.foldl (fun cs (x : Value × Nat) => cs.setIfInBounds (off + x.2) x.1) cells = (cells.toList.take off ++ (a.eval x).cells.toList ++ cells.toList.drop (off + (a.eval x).cells.toList.length)).toArray := by
          rw [← Array.foldl_toList, Array.toList_zipIdx]
          have := foldl_set cells (a.eval x).cells.toList cells off 0 (by simp; omega)
          simpa using this
        obtain ⟨out, k1, k2⟩ := fill_run hs hp (place := place) h3 (cells := (cells.toList.take off ++ (a.eval x).cells.toList ++ cells.toList.drop (off + (a.eval x).cells.toList.length)).toArray) (by simpa using hsp) hf
        refine ⟨out, ?_, k2⟩
        simp only [List.map_cons, Instr.fill, hpl]
        rw [if_neg (by simp [e3]; omega), hfold]
        exact k1
variable {T : TT} (hT : TOK P T)
include hT
/-- Where the fields of a struct lie. -/
def placeS (T : TT) (fs : List (Nat × Nat)) (i : Nat) : Option (Nat × Nat) := (fs[i]?).bind fun f => (T f.2).map fun t => (f.1, t.sz)
theorem mapM_places {fields : Array Field} {fs : List (Nat × Nat)} (hm : fields.toList.map (fun f => (f.offset, f.type)) = fs) (hT' : ∀ f ∈ fs, (T f.2).isSome = true) (w : World) :
    ∃ places : Array (Nat × Nat), (fields.mapM fun f => (do pure (f.offset, ← Go.sizeOf f.type) : Sem (Nat × Nat))).run P w = .ok places w ∧ ∀ i, places[i]? = placeS T fs i := by
  have key : ∀ (l : List Field) (fs : List (Nat × Nat)), l.map (fun f => (f.offset, f.type)) = fs → (∀ f ∈ fs, (T f.2).isSome = true) →
      ∃ ps : List (Nat × Nat), (l.mapM fun f => (do pure (f.offset, ← Go.sizeOf f.type) : Sem (Nat × Nat))).run P w = .ok ps w ∧ ∀ i, ps[i]? = placeS T fs i := by
    intro l
    induction l with
    | nil => intro fs h _; subst h; exact ⟨[], by simp, fun i => by simp [placeS]⟩
    | cons f l ih =>
      intro fs h hT'
      subst h
      obtain ⟨ps, h1, h2⟩ := ih _ rfl (fun g hg => hT' g (List.mem_cons_of_mem _ hg))
      obtain ⟨ti, hti⟩ := Option.isSome_iff_exists.1 (hT' (f.offset, f.type) (by simp))
      refine ⟨(f.offset, ti.sz) :: ps, ?_, fun i => ?_⟩
      · have hti' : T f.type = some ti := hti
        rw [List.mapM_cons]
        simp only [Sem.run_bind, run_sizeOf hT hti', Result.andThen_ok, h1, Sem.run_pure]
      · cases i with
        | zero => simp only at hti; simp [placeS, hti]
        | succ i => simpa [placeS] using h2 i
  obtain ⟨ps, h1, h2⟩ := key fields.toList fs hm hT'
  refine ⟨ps.toArray, ?_, fun i => by simpa using h2 i⟩
  rw [Array.mapM_eq_mapM_toList]
  rw [Sem.run_map, h1]; rfl
theorem P_build {o : Oper} {p : Prop} {t : Nat} {ps : List (Nat × Operand)} {qs : List (Nat × PV)} {ti : TI} {fs : List (Nat × Nat)} {res : List Cell} (ho : o.op = .build t ps.toArray) (ht : T t = some ti) (hk : ti.kind = .struct fs) (hfs : ∀ f ∈ fs, (T f.2).isSome = true)
    (hx : EvP A p ps qs) (hf : fillC (placeS T fs) ti.zero.cells qs = some res) : PureOp P G A o p (.pv (.agg res)) := PureOp.val fun Φ β a w hs hp => by
  obtain ⟨fields, hu, hm⟩ : ∃ fields, P.underlying t = some (.struct fields) ∧ fields.toList.map (fun f => (f.offset, f.type)) = fs := by have := (hT _ _ ht).kind; rw [hk] at this; exact this
  obtain ⟨i, hi, hisz, hib, z, hzz, hrel⟩ := (hT t ti ht).info
  obtain ⟨places, hpl, hpe⟩ := mapM_places hT hm hfs w
  obtain ⟨out, k1, k2⟩ := fill_run (place := fun i => places[i]?) hs hp hx (hrel Φ).cells (by rw [show (fun i => places[i]?) = placeS T fs from funext hpe]; exact hf)
  refine ⟨.agg out, exec_val (m := Instr.build t (ps.toArray.map fun (i, x) => (i, a.eval x))) (by simp only [execOp, ho]) ?_, out, rfl, k2⟩
  have hz : (zeroValue t).run P w = .ok z w := by simp [zeroValue, typeInfo, hi, hzz]
  simp only [Instr.build, Sem.run_bind, hz, Result.andThen_ok, run_underlying hu, hpl]
  have e2 : (ps.toArray.map fun (x : Nat × Operand) => (x.1, a.eval x.2)).toList = ps.map fun (i, x) => (i, a.eval x) := by simp
  simp only [e2, k1]
  rfl
/-- The rows of a slice literal: every place named, in order. -/
def EvR (A : St) : List (Nat × Operand) → Nat → List (List Cell) → Prop
  | [], _, [] => True
  | (i, x) :: xs, k, r :: rs => (i = k ∧ ∃ q, Ev A True x (.pv q) ∧ q.cells = r) ∧ EvR A xs (k + 1) rs
  | _, _, _ => False
omit hT in
theorem fillR_run {sz : Nat} (hs : Sat G Φ β A a w) : ∀ {ps : List (Nat × Operand)} {k : Nat} {rs : List (List Cell)} {cells : Array Value}, EvR A ps k rs → (∀ r ∈ rs, r.length = sz) → cells.size = (k + rs.length) * sz →
    ∃ out : Array Value, Instr.fill (fun i => some (i * sz, sz)) cells (ps.map fun (i, x) => (i, a.eval x)) = some out ∧ out.size = cells.size ∧ (∀ j, j < k * sz → out[j]? = cells[j]?) ∧
      ∀ (i j : Nat) (r : List Cell) (c : Cell), rs[i]? = some r → r[j]? = some c → ∃ v, out[(k + i) * sz + j]? = some v ∧ Rel Φ v c
  | [], k, [], cells, _, _, _ => ⟨cells, rfl, rfl, fun _ _ => rfl, fun i j r c h => by simp at h⟩
  | (i, x) :: ps, k, r :: rs, cells, h, hr, hsz => by
    obtain ⟨⟨rfl, q, h1, rfl⟩, h3⟩ := h
    have hv := PRel.cells (show PRel Φ (a.eval x) q from hs.ev h1 trivial)
    have e1 : q.cells.length = sz := hr _ (by simp)
    have e3 : (a.eval x).cells.size = sz := by have := hv.length; rw [← e1, ← this]; simp
    have e5 : i * sz + sz ≤ cells.size := by
      rw [hsz]
      calc i * sz + sz = (i + 1) * sz := by rw [Nat.add_mul, Nat.one_mul]
        _ ≤ (i + (q.cells :: rs).length) * sz := Nat.mul_le_mul_right _ (by simp)
    have hfold : (a.eval x).cells.zipIdx.foldl (fun cs (x : Value × Nat) => cs.setIfInBounds (i * sz + x.2) x.1) cells = (cells.toList.take (i * sz) ++ (a.eval x).cells.toList ++ cells.toList.drop (i * sz + (a.eval x).cells.toList.length)).toArray := by
      rw [← Array.foldl_toList, Array.toList_zipIdx]
      have := foldl_set cells (a.eval x).cells.toList cells (i * sz) 0 (by simp; omega)
      simpa using this
    have key : ∀ m, (cells.toList.take (i * sz) ++ (a.eval x).cells.toList ++ cells.toList.drop (i * sz + (a.eval x).cells.toList.length)).toArray[m]? =
        if m < i * sz then cells[m]? else if m < i * sz + sz then (a.eval x).cells[m - i * sz]? else cells[m]? := fun m => by
      simp only [List.getElem?_toArray, List.getElem?_append, List.length_append, List.length_take, Array.length_toList, List.getElem?_take, List.getElem?_drop, Array.getElem?_toList, e3]
      have hm : min (i * sz) cells.size = i * sz := by omega
      rw [hm]
      by_cases k1 : m < i * sz
      · rw [if_pos (by omega), if_pos k1, if_pos k1, if_pos k1]
      · by_cases k2 : m < i * sz + sz
        · rw [if_pos k2, if_neg k1, if_neg k1, if_pos k2]
        · rw [if_neg k2, if_neg k1, if_neg k2]
          congr 1; omega
    have hsz2 : (cells.toList.take (i * sz) ++ (a.eval x).cells.toList ++ cells.toList.drop (i * sz + (a.eval x).cells.toList.length)).toArray.size = cells.size := by
      simp [e3]; omega
    obtain ⟨out, k1, k2, k3, k4⟩ := fillR_run hs (sz := sz) (k := i + 1) h3 (fun r h => hr r (List.mem_cons_of_mem _ h)) (cells := (cells.toList.take (i * sz) ++ (a.eval x).cells.toList ++ cells.toList.drop (i * sz + (a.eval x).cells.toList.length)).toArray)
      (by rw [hsz2, hsz]; congr 1; simp; omega)
    have hi1 : (i + 1) * sz = i * sz + sz := by rw [Nat.add_mul, Nat.one_mul]
    refine ⟨out, ?_, by rw [k2, hsz2], fun j hj => ?_, fun i' j r c hi hj => ?_⟩
    · simp only [List.map_cons, Instr.fill]
      rw [if_neg (by simp [e3]; omega), hfold]
      exact k1
    · rw [k3 j (by omega), key, if_pos hj]
    · cases i' with
      | zero =>
        simp at hi; subst hi
        have hjl : j < sz := by rw [← e1]; exact (List.getElem?_eq_some_iff.1 hj).1
        obtain ⟨v, q1, q2⟩ := relL_get' hv hj
        refine ⟨v, ?_, q2⟩
        rw [Nat.add_zero, k3 _ (by omega), key, if_neg (by omega), if_pos (by omega)]
        rw [show i * sz + j - i * sz = j by omega]
        exact q1
      | succ i' =>
        obtain ⟨v, q1, q2⟩ := k4 i' j r c (by simpa using hi) hj
        exact ⟨v, by rw [show i + (i' + 1) = i + 1 + i' by omega]; exact q1, q2⟩
theorem E_lit {o : Oper} {t e d n : Nat} {ps : List (Nat × Operand)} {rs : List (List Cell)} {ti te : TI} (ho : o.op = .buildSlice t n ps.toArray) (hd : o.dst = some d) (hn : d < A.n) (ht : T t = some ti) (hk : ti.kind = .slice e) (he : T e = some te)
    (hx : EvR A ps 0 rs) (hlen : rs.length = n) (hrs : ∀ r ∈ rs, r.length = te.sz) (hb : n * te.sz ≤ 16777216) (hn' : n ≤ 16777216) : EffOp P G A o ((A.bind d d ⟨e, te.sz, rs⟩).set d True (.slc d)) := EffOp.of_val fun Φ β a w hs => by
  have hu : P.underlying t = some (.slice e) := by have := (hT _ _ ht).kind; rw [hk] at this; exact this
  obtain ⟨i, hi, hisz, hib, z, hzz, hrel⟩ := (hT e te he).info
  have hrun : ∃ out : Array Value, (Instr.buildSlice t n (ps.toArray.map fun (i, x) => (i, a.eval x))).run P w = .ok (.slice (some ⟨w.heap.size, 0, none⟩) n n) (w.alloc (.cells out e)) ∧ out.size = n * te.sz ∧
      ∀ (i j : Nat) (r : List Cell) (c : Cell), rs[i]? = some r → r[j]? = some c → ∃ v, out[i * te.sz + j]? = some v ∧ Rel Φ v c := by
    have e2 : (ps.toArray.map fun (x : Nat × Operand) => (x.1, a.eval x.2)).toList = ps.map fun (i, x) => (i, a.eval x) := by simp
    have hz : (zeroValue e).run P w = .ok z w := by simp [zeroValue, typeInfo, hi, hzz]
    have hb' : ¬ (2 ^ 24 < n * te.sz) := by omega
    have main : ∀ (Z : Array Value), Z.size = n * te.sz → (∀ out, Instr.fill (fun i => some (i * te.sz, te.sz)) Z (ps.map fun (i, x) => (i, a.eval x)) = some out → (Instr.buildSlice t n (ps.toArray.map fun (i, x) => (i, a.eval x))).run P w = .ok (.slice (some ⟨w.heap.size, 0, none⟩) n n) (w.alloc (.cells out e))) →
        ∃ out : Array Value, (Instr.buildSlice t n (ps.toArray.map fun (i, x) => (i, a.eval x))).run P w = .ok (.slice (some ⟨w.heap.size, 0, none⟩) n n) (w.alloc (.cells out e)) ∧ out.size = n * te.sz ∧
          ∀ (i j : Nat) (r : List Cell) (c : Cell), rs[i]? = some r → r[j]? = some c → ∃ v, out[i * te.sz + j]? = some v ∧ Rel Φ v c := fun Z hZ hrun => by
      obtain ⟨out, k1, k2, _, k4⟩ := fillR_run hs (sz := te.sz) hx hrs (cells := Z) (by rw [hZ, hlen, Nat.zero_add])
      exact ⟨out, hrun out k1, by rw [k2, hZ], fun i j r c hi hj => by have := k4 i j r c hi hj; rwa [Nat.zero_add] at this⟩
    by_cases h0 : n * te.sz = 0
    · refine main ((Array.range (n * te.sz)).map ((#[] : Array Value)[· % (#[] : Array Value).size]!)) (by rw [Array.size_map, Array.size_range]) fun out k1 => ?_
      rw [h0] at k1
      simp only [Instr.buildSlice, Sem.run_bind, run_underlying hu, Result.andThen_ok, run_sizeOf hT he]
      rw [if_neg hb']
      simp only [h0, if_true, Sem.run_pure, Sem.run_bind, Result.andThen_ok]
      rw [e2, k1]
      rfl
    · refine main ((Array.range (n * te.sz)).map (z.cells[· % z.cells.size]!)) (by rw [Array.size_map, Array.size_range]) fun out k1 => ?_
      simp only [Instr.buildSlice, Sem.run_bind, run_underlying hu, Result.andThen_ok, run_sizeOf hT he]
      rw [if_neg hb']
      simp only [h0, if_false, Sem.run_pure, Sem.run_bind, Result.andThen_ok, hz]
      rw [e2, k1]
      rfl
  obtain ⟨out, h1, h2, h3⟩ := hrun
  have hx1 : (execOp a.eval o).run P w = .ok (.value (.slice (some ⟨w.heap.size, 0, none⟩) n n)) (w.alloc (.cells out e)) := by
    have e3 : execOp a.eval o = (do pure (.value (← Instr.buildSlice t n (ps.toArray.map fun (i, x) => (i, a.eval x))))) := by simp only [execOp, ho]
    rw [e3, Sem.run_bind, h1]; rfl
  refine ⟨_, _, Φ, bindOwn β d d w.heap.size n, hx1, ?_, Φ.le_refl⟩
  rw [hd]
  have hml : n ≤ maxLen := by unfold maxLen; omega
  have hob : Nat.ble mapTag e = false := (hT e te he).small
  have hall := hs.alloc (d := d) (cap := n) (B := ⟨e, te.sz, rs⟩) (cur := out) hob h2 (Nat.le_of_eq hlen) hml hrs h3
  have := hall.putSlc (d := d) hn (by simp only [St.bind]; rw [lk_cons, if_pos rfl]) (by exact hob) bindOwn_self
  rw [hlen] at this
  exact this
end
section
variable {A B : St}
theorem Le.refl : Le A A := fun G Φ β a w h => ⟨Φ, β, Φ.le_refl, h⟩
theorem Le.trans {C : St} (h : Le A B) (h' : Le B C) : Le A C := fun G Φ β a w hs =>
  let ⟨Φ1, β1, l1, s1⟩ := h G Φ β a w hs
  let ⟨Φ2, β2, l2, s2⟩ := h' G Φ1 β1 a w s1
  ⟨Φ2, β2, Frz.le_trans l1 l2, s2⟩
/-- The names that a slot's value needs. -/
def NameOK (bl bl' : List (Nat × Blk)) : AV → Prop
  | .addr n _ _ | .slc n | .mp n | .mpn n _ | .pin n _ _ _ => lk bl' n = lk bl n
  | .itr d n => lk bl' d = lk bl d ∧ lk bl' n = lk bl n
  | _ => True
def SubE (A : St) (bl' : List (Nat × Blk)) : List (Nat × (Prop × AV)) → Prop
  | [] => True
  | (t, (q, v)) :: r => (lk A.env t = some (q, v) ∧ NameOK A.blks bl' v) ∧ SubE A bl' r
def SubB (A : St) : List (Nat × Blk) → Prop
  | [] => True
  | (n, B) :: r => lk A.blks n = some B ∧ SubB A r
theorem subE_get {bl' : List (Nat × Blk)} : ∀ {env : List (Nat × (Prop × AV))}, SubE A bl' env → ∀ {t q v}, lk env t = some (q, v) → lk A.env t = some (q, v) ∧ NameOK A.blks bl' v
  | [], _, t, q, v, h => by simp [lk] at h
  | (s, (q0, v0)) :: r, hs, t, q, v, h => by
    rw [lk_cons] at h
    split at h
    · rename_i e; subst e
      simp only [Option.some.injEq, Prod.mk.injEq] at h
      obtain ⟨rfl, rfl⟩ := h
      exact hs.1
    · exact subE_get hs.2 h
theorem subB_get : ∀ {bl : List (Nat × Blk)}, SubB A bl → ∀ {n B}, lk bl n = some B → lk A.blks n = some B
  | [], _, n, B, h => by simp [lk] at h
  | (m, B0) :: r, hs, n, B, h => by
    rw [lk_cons] at h
    split at h
    · rename_i e; subst e
      obtain rfl := Option.some.inj h
      exact hs.1
    · exact subB_get hs.2 h
theorem Le.mk (hn : B.n = A.n) (he : SubE A B.blks B.env) (hb : SubB A B.blks) : Le A B := fun G Φ β a w hs => by
  refine ⟨Φ, β, Φ.le_refl, hs.kept, hs.fits, hs.old, by rw [hn]; exact hs.siz, hs.dfr, fun t q v h => ?_, fun n C b cap h1 h2 => hs.blk n C b cap (subB_get hb h1) h2, fun n C h1 h2 => hs.vir n C (subB_get hb h1) h2, fun n n' C C' b c c' h1 h2 h3 h4 => hs.inj n n' C C' b c c' (subB_get hb h1) (subB_get hb h2) h3 h4⟩
  obtain ⟨h1, h2⟩ := subE_get he h
  refine ⟨fun hq => ?_, (hs.env t q v h1).2⟩
  have h3 := (hs.env t q v h1).1 hq
  cases v with
  | pv p => exact h3
  | tup l => exact h3
  | top => trivial
  | addr n i off =>
    obtain ⟨b, cap, C, g1, g2, g3⟩ := h3
    exact ⟨b, cap, C, g1, by rw [show lk B.blks n = lk A.blks n from h2]; exact g2, g3⟩
  | slc n =>
    obtain ⟨C, g2, g3⟩ := h3
    exact ⟨C, by rw [show lk B.blks n = lk A.blks n from h2]; exact g2, g3⟩
  | mp n =>
    obtain ⟨b, cap, C, g1, g2, g3⟩ := h3
    exact ⟨b, cap, C, g1, by rw [show lk B.blks n = lk A.blks n from h2]; exact g2, g3⟩
  | mpn n bb =>
    obtain ⟨b, cap, C, g1, g2, g3⟩ := h3
    exact ⟨b, cap, C, g1, by rw [show lk B.blks n = lk A.blks n from h2]; exact g2, g3⟩
  | itr d n =>
    obtain ⟨b, cap, C, M, c, g1, g2, g3, g4, g5, g6⟩ := h3
    exact ⟨b, cap, C, M, c, g1, by rw [h2.1]; exact g2, g3, g4, by rw [h2.2]; exact g5, g6⟩
  | pin n b0 c0 f =>
    obtain ⟨C, g1, g2, g3⟩ := h3
    exact ⟨C, g1, by rw [show lk B.blks n = lk A.blks n from h2]; exact g2, g3⟩
/-- Every own block becomes memory that does not turn any more. -/
def frzV (bl : List (Nat × Blk)) : AV → AV
  | .tup l => .tup l
  | v => match toPV bl v with | some p => .pv p | none => .top
def frzE (bl : List (Nat × Blk)) : List (Nat × (Prop × AV)) → List (Nat × (Prop × AV))
  | [] => []
  | (t, (q, v)) :: r => (t, (q, frzV bl v)) :: frzE bl r
theorem lk_frzE (bl : List (Nat × Blk)) : ∀ (env : List (Nat × (Prop × AV))) (t : Nat) (q : Prop) (v : AV), lk (frzE bl env) t = some (q, v) → ∃ v', lk env t = some (q, v') ∧ v = frzV bl v'
  | [], t, q, v, h => by simp [frzE, lk] at h
  | (s, (q0, v0)) :: r, t, q, v, h => by
    rw [frzE, lk_cons] at h
    rw [lk_cons]
    split at h
    · rename_i e
      simp only [Option.some.injEq, Prod.mk.injEq] at h
      rw [if_pos e]
      exact ⟨v0, by rw [h.1], h.2.symm⟩
    · rename_i e
      rw [if_neg e]
      exact lk_frzE bl r t q v h
theorem Le.freeze : Le A { A with env := frzE A.blks A.env, blks := [] } := fun G Φ β a w hs => by
  refine ⟨frzAll Φ β A.blks w, fun _ => none, hs.frz_le, hs.kept, hs.frz_fits, fun b hk => ?_, hs.siz, hs.dfr, fun t q v h => ?_, fun n C b cap h1 => by simp [lk] at h1, fun n C h1 => by simp [lk] at h1, fun n n' C C' b c c' h1 => by simp [lk] at h1⟩
  · have hno : ¬ ownedBy β A.blks b := fun ⟨n, B, cap, h1, h2⟩ => (hs.blk n B b cap h1 h2).2.1 hk
    unfold frzAll
    rw [if_neg hno]
    exact hs.old b hk
  · obtain ⟨v', h1, rfl⟩ := lk_frzE _ _ _ _ _ h
    refine ⟨fun hq => ?_, (hs.env t q v' h1).2⟩
    have h3 := (hs.env t q v' h1).1 hq
    cases v' with
    | tup l => exact h3.mono hs.frz_le
    | pv p => exact PRel.mono hs.frz_le h3
    | top => trivial
    | mp n => trivial
    | mpn n bb => trivial
    | itr d n => trivial
    | pin n b0 c0 f => trivial
    | addr n i off =>
      simp only [frzV]
      cases hq' : toPV A.blks (.addr n i off) with
      | none => trivial
      | some p => exact hs.toPV h3 hq'
    | slc n =>
      simp only [frzV]
      cases hq' : toPV A.blks (.slc n) with
      | none => trivial
      | some p => exact hs.toPV h3 hq'
/-- A nil slice in a slot becomes an own slice without memory, named n. -/
theorem Le.nilOwn {t n E sz : Nat} (ht : lk A.env t = some (True, .pv (.one .slnil))) (hob : Nat.ble mapTag E = false := by rfl) : Le A ((A.bind n n ⟨E, sz, []⟩).set t True (.slc n)) := fun G Φ β a w hs => by
  have hb := hs.bindNil (d := n) (n := n) (E := E) (sz := sz)
  refine ⟨Φ, _, Φ.le_refl, hb.kept, hb.fits, hb.old, hb.siz, hb.dfr, fun s q v h => ?_, hb.blk, hb.vir, hb.inj⟩
  simp only [St.set] at h
  rw [lk_cons] at h
  split at h
  · rename_i e; subst e
    simp only [Option.some.injEq, Prod.mk.injEq] at h
    obtain ⟨rfl, rfl⟩ := h
    refine ⟨fun _ => ⟨⟨E, sz, []⟩, by simp only [St.set, St.bind]; rw [lk_cons, if_pos rfl], hob, .inl ⟨by simp, ?_⟩⟩, fun h => (h trivial).elim⟩
    have h3 : Rel Φ (a.tmps.getD t undef) .slnil := (hs.env t True _ ht).1 trivial
    cases hv : a.tmps.getD t undef <;> rw [hv] at h3 <;> cases h3
    rfl
  · exact hb.env s q v h
/-- A slot's data read less exactly. -/
theorem Le.sub {t : Nat} {q : Prop} {p p' : PV} (ht : lk A.env t = some (q, .pv p)) (hp : PSub p p') : Le A (A.set t q (.pv p')) := fun G Φ β a w hs => by
  refine ⟨Φ, β, Φ.le_refl, hs.kept, hs.fits, hs.old, hs.siz, hs.dfr, fun s q' v h => ?_, hs.blk, hs.vir, hs.inj⟩
  simp only [St.set] at h
  rw [lk_cons] at h
  split at h
  · rename_i e; subst e
    simp only [Option.some.injEq, Prod.mk.injEq] at h
    obtain ⟨rfl, rfl⟩ := h
    exact ⟨fun hq => PRel.sub ((hs.env t q _ ht).1 hq) hp, (hs.env t q _ ht).2⟩
  · exact hs.env s q' v h
end
end Lf
end
section
set_option linter.unusedVariables false
set_option linter.unusedSimpArgs false
set_option linter.unusedSectionVars false
namespace Lf
open Go Go.RowKit
theorem blt_lt {d n : Nat} (h : Nat.blt d n = true) : d < n := by simpa [Nat.blt_eq] using h
section
variable {K : St → Prop} {Q : Exit → St → Prop} {A : St}
theorem Then.n (h : K A) : Then K Q .normal A := h
theorem Then.r (h : Q .ret A) : Then K Q .ret A := h
theorem Then.x {i : Nat} (h : Q (.exit i) A) : Then K Q (.exit i) A := h
theorem InBlock.n {id : Nat} (h : Q .normal A) : InBlock id Q .normal A := h
theorem InBlock.r {id : Nat} (h : Q .ret A) : InBlock id Q .ret A := h
theorem InBlock.hit {id : Nat} (h : Q .normal A) : InBlock id Q (.exit id) A := by simp [InBlock]; exact h
end
section
variable {P : Program} {G : Ghost} {A : St} {n0 : Nat} {env : List (Nat × (Prop × AV))} {bl : List (Nat × Blk)} {T : TT} {o : Oper} {ops : Array Oper} {rest : List Oper} {Q : St → Prop} {p : Prop} {d : Nat}
theorem lk_fgt_some {n t : Nat} {q : Prop} {v : AV} : ∀ {env : List (Nat × (Prop × AV))}, lk env t = some (q, v) → lk (fgt n env) t = some (q, bif v.ment n then .top else v)
  | [], h => by simp [lk] at h
  | (s, (q0, v0)) :: r, h => by
    rw [lk_cons] at h
    rw [fgt, lk_cons]
    split at h
    · rename_i e
      simp only [Option.some.injEq, Prod.mk.injEq] at h
      rw [if_pos e, h.1, h.2]
    · rename_i e
      rw [if_neg e]
      exact lk_fgt_some h
theorem AVRel.congr {Φ : Frz} {β : Own} {bl bl' : List (Nat × Blk)} {v : Value} {x : AV} (hl : ∀ m, lk bl m = lk bl' m) (h : AVRel Φ β bl v x) : AVRel Φ β bl' v x := by
  cases x with
  | pv p => exact h
  | tup l => exact h
  | top => trivial
  | addr n i off => obtain ⟨b, cap, B, h1, h2, h3⟩ := h; exact ⟨b, cap, B, h1, by rw [← hl]; exact h2, h3⟩
  | slc n => obtain ⟨B, h1, h2⟩ := h; exact ⟨B, by rw [← hl]; exact h1, h2⟩
  | mp n => obtain ⟨b, cap, B, h1, h2, h3⟩ := h; exact ⟨b, cap, B, h1, by rw [← hl]; exact h2, h3⟩
  | mpn n bb => obtain ⟨b, cap, B, h1, h2, h3⟩ := h; exact ⟨b, cap, B, h1, by rw [← hl]; exact h2, h3⟩
  | itr d n => obtain ⟨b, cap, B, M, c, h1, h2, h3, h4, h5, h6⟩ := h; exact ⟨b, cap, B, M, c, h1, by rw [← hl]; exact h2, h3, h4, by rw [← hl]; exact h5, h6⟩
  | pin n b0 c0 f => obtain ⟨B, h1, h2, h3⟩ := h; exact ⟨B, h1, by rw [← hl]; exact h2, h3⟩
/-- A block under a name that names nothing yet: no slot speaks of it. -/
theorem EffOp.fresh {B : Blk} {x : AV} (hfr : lk bl d = none) (h : EffOp P G (St.mk n0 env bl) o (((St.mk n0 env bl).bind d d B).set d True x)) : EffOp P G (St.mk n0 env bl) o (St.mk n0 ((d, (True, x)) :: env) ((d, B) :: bl)) := fun Φ β a w hs =>
  Oper.wp_mono' (h Φ β a w hs) (fun a' w' ⟨Φ', β', hs', hle⟩ => by
    have hl : ∀ m, lk ((d, B) :: (d, deadBlk) :: bl) m = lk ((d, B) :: bl) m := fun m => by
      rw [lk_cons, lk_cons, lk_cons]; split <;> rfl
    refine ⟨Φ', β', ⟨hs'.kept, hs'.fits, hs'.old, hs'.siz, hs'.dfr, fun t q v h1 => ?_, fun n C b cap h1 h2 => hs'.blk n C b cap ((hl n).trans h1) h2, fun n C h1 h2 => hs'.vir n C ((hl n).trans h1) h2, fun n n' C C' b c c' h1 h2 h3 h4 => hs'.inj n n' C C' b c c' ((hl n).trans h1) ((hl n').trans h2) h3 h4⟩, hle⟩
    rw [lk_cons] at h1
    by_cases e : d = t
    · rw [if_pos e] at h1
      have := hs'.env t q v (by simp only [St.set, St.bind]; rw [lk_cons, if_pos e]; exact h1)
      exact ⟨fun hq => (this.1 hq).congr hl, this.2⟩
    · rw [if_neg e] at h1
      have hno : q → v.ment d = false := fun hq => by
        have h2 := (hs.env t q v h1).1 hq
        cases v with
        | pv p => rfl
        | tup l => rfl
        | top => rfl
        | addr m i off =>
          obtain ⟨b, cap, C, g1, g2, g3⟩ := h2
          cases hm : (AV.addr m i off).ment d with
          | false => rfl
          | true => have e2 : m = d := Nat.eq_of_beq_eq_true hm; subst e2; rw [hfr] at g2; cases g2
        | pin m b0 c0 f =>
          obtain ⟨C, g1, g2, g3⟩ := h2
          cases hm : (AV.pin m b0 c0 f).ment d with
          | false => rfl
          | true => have e2 : m = d := Nat.eq_of_beq_eq_true hm; subst e2; rw [hfr] at g2; cases g2
        | slc m =>
          obtain ⟨C, g2, g3⟩ := h2
          cases hm : (AV.slc m).ment d with
          | false => rfl
          | true => have e2 : m = d := Nat.eq_of_beq_eq_true hm; subst e2; rw [hfr] at g2; cases g2
        | mp m =>
          obtain ⟨b, cap, C, g1, g2, g3⟩ := h2
          cases hm : (AV.mp m).ment d with
          | false => rfl
          | true => have e2 : m = d := Nat.eq_of_beq_eq_true hm; subst e2; rw [hfr] at g2; cases g2
        | mpn m bb =>
          obtain ⟨b, cap, C, g1, g2, g3⟩ := h2
          cases hm : (AV.mpn m bb).ment d with
          | false => rfl
          | true => have e2 : m = d := Nat.eq_of_beq_eq_true hm; subst e2; rw [hfr] at g2; cases g2
        | itr e m =>
          obtain ⟨b, cap, C, M, c, g1, g2, g3, g4, g5, g6⟩ := h2
          cases hm : (AV.itr e m).ment d with
          | false => rfl
          | true =>
            simp only [AV.ment, Bool.or_eq_true] at hm
            rcases hm with hm | hm
            · have e2 : e = d := Nat.eq_of_beq_eq_true hm; subst e2; rw [hfr] at g2; cases g2
            · have e2 : m = d := Nat.eq_of_beq_eq_true hm; subst e2; rw [hfr] at g5; cases g5
      have h3 := hs'.env t q _ (by simp only [St.set, St.bind]; rw [lk_cons, if_neg e]; exact lk_fgt_some (lk_fgt_some h1))
      refine ⟨fun hq => ?_, h3.2⟩
      have h4 := h3.1 hq
      rw [hno hq] at h4
      simp only [cond_false] at h4
      rw [hno hq] at h4
      exact h4.congr hl) (fun _ _ _ h => h)
/-- an operation that is carried out in any case, and puts a value into a slot -/
theorem U_ {d : Nat} {op : Op} {ty : TypeId} {pos : String} {after : Array Edge} {v : AV} (hp : PureOp P G (St.mk n0 env bl) ⟨some d, op, ty, pos, after, none⟩ True v) (hn : Nat.blt d n0 = true)
    (h : RG P G ops rest Q (St.mk n0 ((d, (True, v)) :: env) bl)) : RG P G ops (⟨some d, op, ty, pos, after, none⟩ :: rest) Q (St.mk n0 env bl) := RG.pure (GOk.none rfl) hp rfl (blt_lt hn) h
/-- an operation under a guard -/
theorem Ug_ {d j t : Nat} {want b : Bool} {op : Op} {ty : TypeId} {pos : String} {after : Array Edge} {v : AV} (hj : (ops[j]?).bind (·.dst) = some t) (ht : lk env t = some (True, .pv (.one (.bool b))))
    (hp : PureOp P G (St.mk n0 env bl) ⟨some d, op, ty, pos, after, some (j, want)⟩ (b = want) v) (hn : Nat.blt d n0 = true)
    (h : RG P G ops rest Q (St.mk n0 ((d, (b = want, v)) :: env) bl)) : RG P G ops (⟨some d, op, ty, pos, after, some (j, want)⟩ :: rest) Q (St.mk n0 env bl) := RG.pure (GOk.ifT rfl hj ht) hp rfl (blt_lt hn) h
theorem Ugq_ {d j t : Nat} {want b : Bool} {q : Prop} {op : Op} {ty : TypeId} {pos : String} {after : Array Edge} {v : AV} (hj : (ops[j]?).bind (·.dst) = some t) (ht : lk env t = some (q, .pv (.one (.bool b))))
    (hp : PureOp P G (St.mk n0 env bl) ⟨some d, op, ty, pos, after, some (j, want)⟩ (q ∧ b = want) v) (hn : Nat.blt d n0 = true)
    (h : RG P G ops rest Q (St.mk n0 ((d, (q ∧ b = want, v)) :: env) bl)) : RG P G ops (⟨some d, op, ty, pos, after, some (j, want)⟩ :: rest) Q (St.mk n0 env bl) := RG.pure (GOk.if rfl hj ht) hp rfl (blt_lt hn) h
variable {dst : Option Nat} {ty : TypeId} {pos : String} {after : Array Edge} {gd : Option (Nat × Bool)}
theorem Q_move {x : Operand} {v : AV} (hx : Ev (St.mk n0 env bl) p x v) : PureOp P G (St.mk n0 env bl) ⟨dst, .move x, ty, pos, after, gd⟩ p v := P_move rfl hx
theorem Q_assign {x : Operand} {v : AV} (hx : Ev (St.mk n0 env bl) p x v) : PureOp P G (St.mk n0 env bl) ⟨dst, .assign x, ty, pos, after, gd⟩ p v := P_assign rfl hx
theorem Q_or {c y : Operand} {b bz : Bool} (hc : Ev (St.mk n0 env bl) p c (.pv (.one (.bool b)))) (hy : Ev (St.mk n0 env bl) (p ∧ b = false) y (.pv (.one (.bool bz)))) :
    PureOp P G (St.mk n0 env bl) ⟨dst, .pick c (.const (.bool true)) y, ty, pos, after, gd⟩ p (.pv (.one (.bool (b || bz)))) := P_or rfl hc hy
theorem Q_and {c x : Operand} {b bx : Bool} (hc : Ev (St.mk n0 env bl) p c (.pv (.one (.bool b)))) (hx : Ev (St.mk n0 env bl) (p ∧ b = true) x (.pv (.one (.bool bx)))) :
    PureOp P G (St.mk n0 env bl) ⟨dst, .pick c x (.const (.bool false)), ty, pos, after, gd⟩ p (.pv (.one (.bool (b && bx)))) := P_and rfl hc hx
theorem i64_id {n : Int} (h : -9223372036854775808 ≤ n ∧ n ≤ 9223372036854775807) : IntKind.i64.wrap n = n := by rw [IntKind.wrap_i64]; omega
theorem Q_add {xt yt : Nat} {x y : Operand} {m n : Int} (hx : Ev (St.mk n0 env bl) p x (.pv (.one (.int .i64 m)))) (hy : Ev (St.mk n0 env bl) p y (.pv (.one (.int .i64 n)))) (hb : -9223372036854775808 ≤ m + n ∧ m + n ≤ 9223372036854775807) :
    PureOp P G (St.mk n0 env bl) ⟨dst, .binOp .add xt x y yt, ty, pos, after, gd⟩ p (.pv (.one (.int .i64 (m + n)))) := P_bin rfl hx hy (by simp only [binI]; rw [i64_id hb])
theorem Q_sub {xt yt : Nat} {x y : Operand} {m n : Int} (hx : Ev (St.mk n0 env bl) p x (.pv (.one (.int .i64 m)))) (hy : Ev (St.mk n0 env bl) p y (.pv (.one (.int .i64 n)))) (hb : -9223372036854775808 ≤ m - n ∧ m - n ≤ 9223372036854775807) :
    PureOp P G (St.mk n0 env bl) ⟨dst, .binOp .sub xt x y yt, ty, pos, after, gd⟩ p (.pv (.one (.int .i64 (m - n)))) := P_bin rfl hx hy (by simp only [binI]; rw [i64_id hb])
theorem Q_mul {xt yt : Nat} {x y : Operand} {m n : Int} (hx : Ev (St.mk n0 env bl) p x (.pv (.one (.int .i64 m)))) (hy : Ev (St.mk n0 env bl) p y (.pv (.one (.int .i64 n)))) (hb : -9223372036854775808 ≤ m * n ∧ m * n ≤ 9223372036854775807) :
    PureOp P G (St.mk n0 env bl) ⟨dst, .binOp .mul xt x y yt, ty, pos, after, gd⟩ p (.pv (.one (.int .i64 (m * n)))) := P_bin rfl hx hy (by simp only [binI]; rw [i64_id hb])
theorem Q_quo {xt yt : Nat} {x y : Operand} {k : IntKind} {m n : Int} (hx : Ev (St.mk n0 env bl) p x (.pv (.one (.int k m)))) (hy : Ev (St.mk n0 env bl) p y (.pv (.one (.int k n)))) (hz : p → n ≠ 0) :
    PureOp P G (St.mk n0 env bl) ⟨dst, .binOp .quo xt x y yt, ty, pos, after, gd⟩ p (.pv (.one (.int k (k.wrap (m.tdiv n))))) := P_quo rfl hx hy hz
/-- a quotient of numbers that are not negative -/
theorem Q_quoN {xt yt : Nat} {x y : Operand} {m n : Int} (hx : Ev (St.mk n0 env bl) p x (.pv (.one (.int .i64 m)))) (hy : Ev (St.mk n0 env bl) p y (.pv (.one (.int .i64 n)))) (hz : 0 ≤ m ∧ m ≤ 9223372036854775807 ∧ 0 < n) :
    PureOp P G (St.mk n0 env bl) ⟨dst, .binOp .quo xt x y yt, ty, pos, after, gd⟩ p (.pv (.one (.int .i64 (m / n)))) := by
  have h := P_quo (P := P) (G := G) (o := ⟨dst, .binOp .quo xt x y yt, ty, pos, after, gd⟩) rfl hx hy (fun _ => by omega)
  have e : m.tdiv n = m / n := Int.tdiv_eq_ediv_of_nonneg hz.1
  have h1 : 0 ≤ m / n := Int.ediv_nonneg hz.1 (by omega)
  have h2 : m / n ≤ m := Int.ediv_le_self _ hz.1
  rw [e, i64_id (by omega)] at h
  exact h
theorem Q_rem {xt yt : Nat} {x y : Operand} {k : IntKind} {m n : Int} (hx : Ev (St.mk n0 env bl) p x (.pv (.one (.int k m)))) (hy : Ev (St.mk n0 env bl) p y (.pv (.one (.int k n)))) (hz : p → n ≠ 0) :
    PureOp P G (St.mk n0 env bl) ⟨dst, .binOp .rem xt x y yt, ty, pos, after, gd⟩ p (.pv (.one (.int k (m.tmod n)))) := P_rem rfl hx hy hz
theorem Q_remN {xt yt : Nat} {x y : Operand} {k : IntKind} {m n : Int} (hx : Ev (St.mk n0 env bl) p x (.pv (.one (.int k m)))) (hy : Ev (St.mk n0 env bl) p y (.pv (.one (.int k n)))) (hz : 0 ≤ m ∧ 0 < n) :
    PureOp P G (St.mk n0 env bl) ⟨dst, .binOp .rem xt x y yt, ty, pos, after, gd⟩ p (.pv (.one (.int k (m % n)))) := by
  have h := P_rem (P := P) (G := G) (o := ⟨dst, .binOp .rem xt x y yt, ty, pos, after, gd⟩) rfl hx hy (fun _ => by omega)
  rw [Int.tmod_eq_emod_of_nonneg hz.1] at h
  exact h
theorem Q_bin {op : BinOp} {xt yt : Nat} {x y : Operand} {k : IntKind} {m n : Int} {c : Cell} (hx : Ev (St.mk n0 env bl) p x (.pv (.one (.int k m)))) (hy : Ev (St.mk n0 env bl) p y (.pv (.one (.int k n)))) (hr : binI op k m n = some c) :
    PureOp P G (St.mk n0 env bl) ⟨dst, .binOp op xt x y yt, ty, pos, after, gd⟩ p (.pv (.one c)) := P_bin rfl hx hy hr
theorem Q_binS {op : BinOp} {xt yt : Nat} {x y : Operand} {m n : List UInt8} {c : Cell} (hx : Ev (St.mk n0 env bl) p x (.pv (.one (.str m)))) (hy : Ev (St.mk n0 env bl) p y (.pv (.one (.str n)))) (hr : binS op m n = some c) :
    PureOp P G (St.mk n0 env bl) ⟨dst, .binOp op xt x y yt, ty, pos, after, gd⟩ p (.pv (.one c)) := P_binS rfl hx hy hr
theorem Q_shl {xt yt : Nat} {x y : Operand} {k yk : IntKind} {m n : Int} (hx : Ev (St.mk n0 env bl) p x (.pv (.one (.int k m)))) (hy : Ev (St.mk n0 env bl) p y (.pv (.one (.int yk n)))) (hz : p → 0 ≤ n) :
    PureOp P G (St.mk n0 env bl) ⟨dst, .binOp .shl xt x y yt, ty, pos, after, gd⟩ p (.pv (.one (.int k (k.wrap (m * 2 ^ min n.toNat k.bits))))) := P_shl rfl hx hy hz
theorem Q_not {xt : Nat} {x : Operand} {b : Bool} (hx : Ev (St.mk n0 env bl) p x (.pv (.one (.bool b)))) : PureOp P G (St.mk n0 env bl) ⟨dst, .unOp .not xt x, ty, pos, after, gd⟩ p (.pv (.one (.bool (!b)))) := P_not rfl hx
theorem Q_neg {xt : Nat} {x : Operand} {n : Int} (hx : Ev (St.mk n0 env bl) p x (.pv (.one (.int .i64 n)))) (hb : -9223372036854775808 ≤ -n ∧ -n ≤ 9223372036854775807) : PureOp P G (St.mk n0 env bl) ⟨dst, .unOp .neg xt x, ty, pos, after, gd⟩ p (.pv (.one (.int .i64 (-n)))) := by
  have h := P_neg (P := P) (G := G) (o := ⟨dst, .unOp .neg xt x, ty, pos, after, gd⟩) rfl hx
  rw [show (0 - n) = -n by omega, i64_id hb] at h
  exact h
theorem Q_negw {xt : Nat} {x : Operand} {k : IntKind} {n : Int} (hx : Ev (St.mk n0 env bl) p x (.pv (.one (.int k n)))) : PureOp P G (St.mk n0 env bl) ⟨dst, .unOp .neg xt x, ty, pos, after, gd⟩ p (.pv (.one (.int k (k.wrap (0 - n))))) := P_neg rfl hx
theorem Q_extract {x : Operand} {i : Nat} {l : List PV} {q : PV} (hx : Ev (St.mk n0 env bl) p x (.tup l)) (hi : l[i]? = some q) : PureOp P G (St.mk n0 env bl) ⟨dst, .extract x i, ty, pos, after, gd⟩ p (.pv q) := P_extract rfl hx hi
theorem Q_call {f : FuncId} {xs : List Operand} {ats : Array TypeId} {ps : List PV} {r : AV} (hc : ACalls P f ps r) (hx : EvL (St.mk n0 env bl) p xs ps) (hr : r.flat = true) :
    PureOp P G (St.mk n0 env bl) ⟨dst, .call ⟨.value (.func f), xs.toArray, ats⟩, ty, pos, after, gd⟩ p r := P_call rfl hx hc.fn (fun _ => hc) hr
theorem Q_calld {f : FuncId} {xs : List Operand} {ats : Array TypeId} {ps : List PV} {r : AV} (hc : ACalls P f ps r) (hx : EvD (St.mk n0 env bl) p xs ps) :
    PureOp P G (St.mk n0 env bl) ⟨dst, .call ⟨.value (.func f), xs.toArray, ats⟩, ty, pos, after, gd⟩ p r := P_calld rfl hx hc.fn (fun _ => hc)
theorem Q_max {x y : Operand} {k : IntKind} {m n : Int} {ats : Array TypeId} (hx : Ev (St.mk n0 env bl) p x (.pv (.one (.int k m)))) (hy : Ev (St.mk n0 env bl) p y (.pv (.one (.int k n)))) :
    PureOp P G (St.mk n0 env bl) ⟨dst, .call ⟨.builtin .max, #[x, y], ats⟩, ty, pos, after, gd⟩ p (.pv (.one (.int k (max m n)))) := P_max rfl hx hy
theorem EvL.nil : EvL A p [] [] := trivial
theorem EvL.cons {x : Operand} {xs : List Operand} {q r : PV} {qs : List PV} {av : AV} (h : Ev A p x av) (hq : toPV A.blks av = some r) (hs : PSub r q) (ht : EvL A p xs qs) : EvL A p (x :: xs) (q :: qs) := ⟨⟨av, r, h, hq, hs⟩, ht⟩
theorem EvD.nil : EvD A p [] [] := trivial
theorem EvD.cons {x : Operand} {xs : List Operand} {q r : PV} {qs : List PV} (h : Ev A p x (.pv r)) (hs : PSub r q) (ht : EvD A p xs qs) : EvD A p (x :: xs) (q :: qs) := ⟨⟨r, h, hs⟩, ht⟩
theorem PSub.rfl' {q : PV} : PSub q q := PSub.refl q
theorem PSub.nil' : PSub (.one .slnil) (.one (.sl [])) := CSub.nil
theorem EvP.nil : EvP A p [] [] := trivial
theorem EvP.cons {i : Nat} {x : Operand} {xs : List (Nat × Operand)} {q : PV} {qs : List (Nat × PV)} (h : Ev A p x (.pv q)) (ht : EvP A p xs qs) : EvP A p ((i, x) :: xs) ((i, q) :: qs) := ⟨⟨rfl, _, h, rfl, rfl⟩, ht⟩
theorem EvR.nil {k : Nat} : EvR A [] k [] := trivial
theorem EvR.cons {k : Nat} {x : Operand} {xs : List (Nat × Operand)} {q : PV} {rs : List (List Cell)} (h : Ev A True x (.pv q)) (ht : EvR A xs (k + 1) rs) : EvR A ((k, x) :: xs) k (q.cells :: rs) := ⟨⟨rfl, _, h, rfl⟩, ht⟩
variable (hT : TOK P T)
include hT
theorem Q_conv {src t : Nat} {x : Operand} {ks kd : IntKind} {n : Int} {ti tj : TI} (hs0 : T src = some ti) (hk : ti.kind = .int ks) (hd0 : T t = some tj) (hk' : tj.kind = .int kd) (hx : Ev (St.mk n0 env bl) p x (.pv (.one (.int ks n)))) :
    PureOp P G (St.mk n0 env bl) ⟨dst, .convert src t x, ty, pos, after, gd⟩ p (.pv (.one (.int kd (kd.wrap n)))) := P_conv_int hT rfl hs0 hk hd0 hk' hx
theorem Q_convI {src t : Nat} {x : Operand} {ks : IntKind} {n : Int} {ti tj : TI} (hs0 : T src = some ti) (hk : ti.kind = .int ks) (hd0 : T t = some tj) (hk' : tj.kind = .int .i64) (hx : Ev (St.mk n0 env bl) p x (.pv (.one (.int ks n)))) (hb : -9223372036854775808 ≤ n ∧ n ≤ 9223372036854775807) :
    PureOp P G (St.mk n0 env bl) ⟨dst, .convert src t x, ty, pos, after, gd⟩ p (.pv (.one (.int .i64 n))) := by
  have h := P_conv_int (P := P) (G := G) hT (o := ⟨dst, .convert src t x, ty, pos, after, gd⟩) rfl hs0 hk hd0 hk' hx
  rw [i64_id hb] at h
  exact h
theorem Q_load {t n i off : Nat} {x : Operand} {ti : TI} {B : Blk} {r : List Cell} {c : Cell} (ht : T t = some ti) (hb : ti.kind.isAgg = some false) (hx : Ev (St.mk n0 env bl) p x (.addr n i off))
    (hl : lk bl n = some B) (hr : B.rows[i]? = some r) (hc : r[off]? = some c) : PureOp P G (St.mk n0 env bl) ⟨dst, .load t x, ty, pos, after, gd⟩ p (.pv (.one c)) := P_load_own hT rfl ht hb hx hl (fun _ => hr) (fun _ => hc)
theorem Q_loada {t n i off : Nat} {x : Operand} {ti : TI} {B : Blk} {r : List Cell} (ht : T t = some ti) (hb : ti.kind.isAgg = some true) (hx : Ev (St.mk n0 env bl) p x (.addr n i off))
    (hl : lk bl n = some B) (hr : B.rows[i]? = some r) (hc : Nat.ble (off + ti.sz) r.length = true) : PureOp P G (St.mk n0 env bl) ⟨dst, .load t x, ty, pos, after, gd⟩ p (.pv (.agg ((r.drop off).take ti.sz))) :=
  P_load_own_agg hT rfl ht hb hx hl (fun _ => hr) (fun _ => Nat.le_of_ble_eq_true hc)
theorem Q_loadp {t : Nat} {x : Operand} {ti : TI} {cs : List Cell} {c : Cell} (ht : T t = some ti) (hb : ti.kind.isAgg = some false) (hx : Ev (St.mk n0 env bl) p x (.pv (.one (.ptr cs)))) (hc : cs[0]? = some c) :
    PureOp P G (St.mk n0 env bl) ⟨dst, .load t x, ty, pos, after, gd⟩ p (.pv (.one c)) := P_load_ptr hT rfl ht hb hx (fun _ => hc)
theorem Q_loadpa {t : Nat} {x : Operand} {ti : TI} {cs : List Cell} (ht : T t = some ti) (hb : ti.kind.isAgg = some true) (hx : Ev (St.mk n0 env bl) p x (.pv (.one (.ptr cs)))) (hc : Nat.ble ti.sz cs.length = true) :
    PureOp P G (St.mk n0 env bl) ⟨dst, .load t x, ty, pos, after, gd⟩ p (.pv (.agg (cs.take ti.sz))) := P_load_ptr_agg hT rfl ht hb hx (fun _ => Nat.le_of_ble_eq_true hc)
theorem Q_field {s f n i off fo ft : Nat} {x : Operand} {ti tj : TI} {fs : List (Nat × Nat)} (hx : Ev (St.mk n0 env bl) p x (.addr n i off)) (ht : T s = some ti) (hk : ti.kind = .struct fs) (hf : fs[f]? = some (fo, ft)) (hj : T ft = some tj) (hz : Nat.blt 0 tj.sz = true) :
    PureOp P G (St.mk n0 env bl) ⟨dst, .fieldAddr s x f, ty, pos, after, gd⟩ p (.addr n i (off + fo)) := P_field_own hT rfl ht hk hf hj (Nat.ne_of_gt (blt_lt hz)) hx
theorem Q_fieldp {s f fo ft : Nat} {x : Operand} {ti tj : TI} {fs : List (Nat × Nat)} {cs : List Cell} (hx : Ev (St.mk n0 env bl) p x (.pv (.one (.ptr cs)))) (ht : T s = some ti) (hk : ti.kind = .struct fs) (hf : fs[f]? = some (fo, ft)) (hj : T ft = some tj) (hz : Nat.blt 0 tj.sz = true) :
    PureOp P G (St.mk n0 env bl) ⟨dst, .fieldAddr s x f, ty, pos, after, gd⟩ p (.pv (.one (.ptr (cs.drop fo)))) := P_field_ptr hT rfl ht hk hf hj (Nat.ne_of_gt (blt_lt hz)) hx
theorem Q_index {t e n : Nat} {x y : Operand} {ti te : TI} {B : Blk} {k : IntKind} {i : Int} (hx : Ev (St.mk n0 env bl) p x (.slc n)) (hy : Ev (St.mk n0 env bl) p y (.pv (.one (.int k i)))) (ht : T t = some ti) (hk : ti.kind = .slice e) (he : T e = some te)
    (hl : lk bl n = some B) (hz : te.sz = B.sz) (hi : p → 0 ≤ i ∧ i < B.rows.length) : PureOp P G (St.mk n0 env bl) ⟨dst, .indexAddr t x y, ty, pos, after, gd⟩ p (.addr n i.toNat 0) := P_index_own hT rfl ht hk he hx hy hl hz hi
theorem Q_indexd {t e : Nat} {x y : Operand} {ti te : TI} {rows : List (List Cell)} {r : List Cell} {k : IntKind} {i : Int} (hx : Ev (St.mk n0 env bl) p x (.pv (.one (.sl rows)))) (hy : Ev (St.mk n0 env bl) p y (.pv (.one (.int k i)))) (ht : T t = some ti) (hk : ti.kind = .slice e) (he : T e = some te)
    (hr : p → 0 ≤ i ∧ rows[i.toNat]? = some r) (hz : r.length = te.sz) : PureOp P G (St.mk n0 env bl) ⟨dst, .indexAddr t x y, ty, pos, after, gd⟩ p (.pv (.one (.ptr r))) := P_index_sl hT rfl ht hk he hx hy hr (fun _ => hz)
theorem Q_indexs {t : Nat} {x y : Operand} {ti : TI} {l : List UInt8} {k : IntKind} {i : Int} {c : UInt8} (hx : Ev (St.mk n0 env bl) p x (.pv (.one (.str l)))) (hy : Ev (St.mk n0 env bl) p y (.pv (.one (.int k i)))) (ht : T t = some ti) (hk : ti.kind = .string)
    (hr : p → 0 ≤ i ∧ l[i.toNat]? = some c) : PureOp P G (St.mk n0 env bl) ⟨dst, .index t x y, ty, pos, after, gd⟩ p (.pv (.one (.int .u8 c.toNat))) := P_index_str hT rfl ht hk hx hy hr
theorem Q_lend {t e : Nat} {x : Operand} {ti : TI} {rows : List (List Cell)} (hx : Ev (St.mk n0 env bl) p x (.pv (.one (.sl rows)))) (ht : T t = some ti) (hk : ti.kind = .slice e) :
    PureOp P G (St.mk n0 env bl) ⟨dst, .call ⟨.builtin .len, #[x], #[t]⟩, ty, pos, after, gd⟩ p (.pv (.one (.int .i64 rows.length))) := P_len_sl hT rfl ht hk hx
theorem Q_len {t e n : Nat} {x : Operand} {ti : TI} {B : Blk} (hx : Ev (St.mk n0 env bl) p x (.slc n)) (ht : T t = some ti) (hk : ti.kind = .slice e) (hl : lk bl n = some B) :
    PureOp P G (St.mk n0 env bl) ⟨dst, .call ⟨.builtin .len, #[x], #[t]⟩, ty, pos, after, gd⟩ p (.pv (.one (.int .i64 B.rows.length))) := P_len_own hT rfl ht hk hx hl
theorem Q_lens {t : Nat} {x : Operand} {ti : TI} {l : List UInt8} (hx : Ev (St.mk n0 env bl) p x (.pv (.one (.str l)))) (ht : T t = some ti) (hk : ti.kind = .string) :
    PureOp P G (St.mk n0 env bl) ⟨dst, .call ⟨.builtin .len, #[x], #[t]⟩, ty, pos, after, gd⟩ p (.pv (.one (.int .i64 l.length))) := P_len_str hT rfl ht hk hx
theorem Q_build {t : Nat} {ps : List (Nat × Operand)} {qs : List (Nat × PV)} {ti : TI} {fs : List (Nat × Nat)} {res : List Cell} (hx : EvP (St.mk n0 env bl) p ps qs) (ht : T t = some ti) (hk : ti.kind = .struct fs) (hfs : fs.all (fun f => (T f.2).isSome) = true)
    (hf : fillC (placeS T fs) ti.zero.cells qs = some res) : PureOp P G (St.mk n0 env bl) ⟨dst, .build t ps.toArray, ty, pos, after, gd⟩ p (.pv (.agg res)) := P_build hT rfl ht hk (fun f hf => List.all_eq_true.1 hfs f hf) hx hf
theorem S_alloc {t d : Nat} {ti : TI} (ht : T t = some ti) (hz : ti.zero.cells.length = ti.sz) (hfr : lk bl d = none) (hn : Nat.blt d n0 = true)
    (h : RG P G ops rest Q (St.mk n0 ((d, (True, .addr d 0 0)) :: env) ((d, ⟨t, ti.sz, [ti.zero.cells]⟩) :: bl))) : RG P G ops (⟨some d, .alloc t, ty, pos, after, none⟩ :: rest) Q (St.mk n0 env bl) :=
  RG.eff rfl (EffOp.fresh hfr (E_alloc hT rfl rfl (blt_lt hn) ht hz)) h
omit hT in
theorem S_box {t d : Nat} {x : Operand} {q : PV} (hx : Ev (St.mk n0 env bl) True x (.pv q)) (hsm : Nat.ble mapTag t = false) (hfr : lk bl d = none) (hn : Nat.blt d n0 = true)
    (h : RG P G ops rest Q (St.mk n0 ((d, (True, .addr d 0 0)) :: env) ((d, ⟨t, q.cells.length, [q.cells]⟩) :: bl))) : RG P G ops (⟨some d, .box t x, ty, pos, after, none⟩ :: rest) Q (St.mk n0 env bl) :=
  RG.eff rfl (EffOp.fresh hfr (E_box hsm rfl rfl (blt_lt hn) hx)) h
theorem S_store {t n i off : Nat} {x y : Operand} {ti : TI} {B : Blk} {r : List Cell} {q : PV} (hx : Ev (St.mk n0 env bl) True x (.addr n i off)) (hy : Ev (St.mk n0 env bl) True y (.pv q)) (ht : T t = some ti) (hl : lk bl n = some B) (hr : B.rows[i]? = some r)
    (hq : q.cells.length = ti.sz) (hfit : Nat.ble (off + ti.sz) r.length = true) (h : RG P G ops rest Q (St.mk n0 env ((n, { B with rows := B.rows.set i (splice r off q.cells) }) :: bl))) :
    RG P G ops (⟨none, .store t x y, ty, pos, after, none⟩ :: rest) Q (St.mk n0 env bl) :=
  RG.eff rfl (E_store hT rfl rfl ht hx hy hl hr hq (Nat.le_of_ble_eq_true hfit)) h
theorem S_make {t e d : Nat} {x y : Operand} {kx ky : IntKind} {m c : Int} {ti te : TI} (hx : Ev (St.mk n0 env bl) True x (.pv (.one (.int kx m)))) (hy : Ev (St.mk n0 env bl) True y (.pv (.one (.int ky c)))) (ht : T t = some ti) (hk : ti.kind = .slice e) (he : T e = some te)
    (hzl : te.zero.cells.length = te.sz) (hmc : 0 ≤ m ∧ m ≤ c ∧ c * te.bytes ≤ 281474976710656 ∧ c ≤ 281474976710656) (hfr : lk bl d = none) (hn : Nat.blt d n0 = true)
    (h : RG P G ops rest Q (St.mk n0 ((d, (True, .slc d)) :: env) ((d, ⟨e, te.sz, List.replicate m.toNat te.zero.cells⟩) :: bl))) : RG P G ops (⟨some d, .makeSlice t x y, ty, pos, after, none⟩ :: rest) Q (St.mk n0 env bl) :=
  RG.eff rfl (EffOp.fresh hfr (E_make hT rfl rfl (blt_lt hn) ht hk he hzl hx hy hmc.1 hmc.2.1 hmc.2.2.1 hmc.2.2.2)) h
theorem S_lit {t e n d : Nat} {ps : List (Nat × Operand)} {rs : List (List Cell)} {ti te : TI} (hx : EvR (St.mk n0 env bl) ps 0 rs) (ht : T t = some ti) (hk : ti.kind = .slice e) (he : T e = some te) (hlen : rs.length = n) (hrs : rs.all (fun r => Nat.beq r.length te.sz) = true)
    (hb : Nat.ble (n * te.sz) 16777216 = true) (hn' : Nat.ble n 16777216 = true) (hfr : lk bl d = none) (hn : Nat.blt d n0 = true) (h : RG P G ops rest Q (St.mk n0 ((d, (True, .slc d)) :: env) ((d, ⟨e, te.sz, rs⟩) :: bl))) :
    RG P G ops (⟨some d, .buildSlice t n ps.toArray, ty, pos, after, none⟩ :: rest) Q (St.mk n0 env bl) :=
  RG.eff rfl (EffOp.fresh hfr (E_lit hT rfl rfl (blt_lt hn) ht hk he hx hlen (fun r hr => Nat.eq_of_beq_eq_true (List.all_eq_true.1 hrs r hr)) (Nat.le_of_ble_eq_true hb) (Nat.le_of_ble_eq_true hn'))) h
theorem S_append {t e n m d : Nat} {x y : Operand} {ti te : TI} {B C : Blk} (hx : Ev (St.mk n0 env bl) True x (.slc n)) (hy : Ev (St.mk n0 env bl) True y (.slc m)) (ht : T t = some ti) (hk : ti.kind = .slice e) (he : T e = some te) (hl : lk bl n = some B) (hm : lk bl m = some C)
    (hzl : te.zero.cells.length = te.sz) (hz : Nat.blt 0 te.sz = true) (hE : B.E = e) (hsz : B.sz = te.sz) (hCsz : C.sz = te.sz)
    (hb : (B.rows.length + C.rows.length) * te.bytes ≤ 140737488355328 ∧ B.rows.length + C.rows.length ≤ 140737488355328) (hn : Nat.blt d n0 = true)
    (h : RG P G ops rest Q (St.mk n0 ((d, (True, .slc d)) :: fgt d (fgt n env)) ((d, ⟨e, te.sz, B.rows ++ C.rows⟩) :: (n, deadBlk) :: bl))) : RG P G ops (⟨some d, .call ⟨.builtin .append, #[x, y], #[t, t]⟩, ty, pos, after, none⟩ :: rest) Q (St.mk n0 env bl) :=
  RG.eff rfl (E_append hT rfl rfl (blt_lt hn) ht hk he hzl (blt_lt hz) hx hl hE hsz hy hm hCsz (by by_cases h : d = n; exact .inl h; exact .inr (.inr h)) hb.1 hb.2) h
theorem S_appendd {t e n d : Nat} {x y : Operand} {ti te : TI} {B : Blk} {rows2 : List (List Cell)} (hx : Ev (St.mk n0 env bl) True x (.slc n)) (hy : Ev (St.mk n0 env bl) True y (.pv (.one (.sl rows2)))) (ht : T t = some ti) (hk : ti.kind = .slice e) (he : T e = some te) (hl : lk bl n = some B)
    (hzl : te.zero.cells.length = te.sz) (hz : Nat.blt 0 te.sz = true) (hE : B.E = e) (hsz : B.sz = te.sz) (hrows : ∀ r ∈ rows2, r.length = te.sz)
    (hb : (B.rows.length + rows2.length) * te.bytes ≤ 140737488355328 ∧ B.rows.length + rows2.length ≤ 140737488355328) (hn : Nat.blt d n0 = true)
    (h : RG P G ops rest Q (St.mk n0 ((d, (True, .slc d)) :: fgt d (fgt n env)) ((d, ⟨e, te.sz, B.rows ++ rows2⟩) :: (n, deadBlk) :: bl))) : RG P G ops (⟨some d, .call ⟨.builtin .append, #[x, y], #[t, t]⟩, ty, pos, after, none⟩ :: rest) Q (St.mk n0 env bl) :=
  RG.eff rfl (E_append_data hT rfl rfl (blt_lt hn) ht hk he hzl (blt_lt hz) hx hl hE hsz hy hrows hb.1 hb.2) h
end
theorem TK.ok_struct {P : Program} {t : Nat} {fs : List (Nat × Nat)} (h : ((P.underlying t).bind fun d => match d with | .struct f => some (f.toList.map fun f => (f.offset, f.type)) | _ => none) = some fs) : (TK.struct fs).ok P t := by
  cases hu : P.underlying t with
  | none => rw [hu] at h; cases h
  | some d =>
    rw [hu] at h
    cases d <;> simp at h
    rename_i f
    exact ⟨f, hu, h⟩
theorem TK.ok_func {P : Program} {t : Nat} (h : ((P.underlying t).bind fun d => match d with | .func a b c => some () | _ => none) = some ()) : TK.func.ok P t := by
  cases hu : P.underlying t with
  | none => rw [hu] at h; cases h
  | some d =>
    rw [hu] at h
    cases d <;> simp at h
    exact ⟨_, _, _, hu⟩
theorem TK.ok_iface {P : Program} {t : Nat} (h : ((P.underlying t).bind fun d => match d with | .interface a => some () | _ => none) = some ()) : TK.iface.ok P t := by
  cases hu : P.underlying t with
  | none => rw [hu] at h; cases h
  | some d =>
    rw [hu] at h
    cases d <;> simp at h
    exact ⟨_, hu⟩
theorem TI.ok_mk {P : Program} {t : Nat} {k : TK} {sz bytes : Nat} {zero : PV} {z : Value} (hk : k.ok P t) (h : (P.info? t).map (fun i => (i.size, i.bytes, i.zero)) = some (sz, bytes, some z)) (hz : ∀ Φ, PRel Φ z zero) (hsm : Nat.ble mapTag t = false := by rfl) : TI.ok P t ⟨k, sz, bytes, zero⟩ := by
  refine ⟨hsm, hk, ?_⟩
  cases hi : P.info? t with
  | none => rw [hi] at h; cases h
  | some i =>
    rw [hi] at h
    simp only [Option.map_some, Option.some.injEq, Prod.mk.injEq] at h
    exact ⟨i, rfl, h.1, h.2.1, z, h.2.2, hz⟩
def AllOK (P : Program) : List (Nat × TI) → Prop
  | [] => True
  | (t, ti) :: r => ti.ok P t ∧ AllOK P r
theorem AllOK.nil {P : Program} : AllOK P [] := trivial
theorem AllOK.cons {P : Program} {t : Nat} {ti : TI} {r : List (Nat × TI)} (h : ti.ok P t) (h' : AllOK P r) : AllOK P ((t, ti) :: r) := ⟨h, h'⟩
theorem TOK.of_list {P : Program} : ∀ {l : List (Nat × TI)}, AllOK P l → TOK P (lk l)
  | [], _, t, ti, h => by simp [lk] at h
  | (s, ts) :: r, hs, t, ti, h => by
    rw [lk_cons] at h
    split at h
    · rename_i e; subst e
      obtain rfl := Option.some.inj h
      exact hs.1
    · exact TOK.of_list hs.2 t ti h
theorem getRow {α : Type} [Inhabited α] {l : List α} {f : α → List Cell} {i : Int} (h : 0 ≤ i ∧ i < l.length) : 0 ≤ i ∧ (l.map f)[i.toNat]? = some (f (l.getD i.toNat default)) := by
  refine ⟨h.1, ?_⟩
  have hlt : i.toNat < l.length := by omega
  simp [List.getElem?_eq_getElem hlt, List.getD]
def Pick (A : St) : List Nat → List (Nat × (Prop × AV)) → Prop
  | [], [] => True
  | t :: ts, (s, e) :: r => (t = s ∧ lk A.env t = some e) ∧ Pick A ts r
  | _, _ => False
theorem Pick.nil {A : St} : Pick A [] [] := trivial
theorem Pick.cons {A : St} {t : Nat} {e : Prop × AV} {ts : List Nat} {r : List (Nat × (Prop × AV))} (h : lk A.env t = some e) (h' : Pick A ts r) : Pick A (t :: ts) ((t, e) :: r) := ⟨⟨rfl, h⟩, h'⟩
def mkSt (n : Nat) (f E : List (Nat × (Prop × AV))) (bl : List (Nat × Blk)) : St := ⟨n, f ++ E, bl⟩
/-- A LOOP, by what it turns (f), what it keeps (E), its own blocks (bl), an invariant and a measure. -/
theorem W.loopP {P : Program} {G : Ghost} {A : St} {Q : Exit → St → Prop} {c : Code} {σ : Type _} (n : Nat) (keep : List Nat) (inv : σ → Prop) (f : σ → List (Nat × (Prop × AV))) (bl : σ → List (Nat × Blk)) (μ : σ → Nat) (s0 : σ) {E : List (Nat × (Prop × AV))} (hp : Pick A keep E)
    (h0 : inv s0 ∧ Le A (mkSt n (f s0) E (bl s0))) (round : ∀ s, inv s → W P G c (Then (fun A' => ∃ s', inv s' ∧ Le A' (mkSt n (f s') E (bl s')) ∧ μ s' < μ s) Q) (mkSt n (f s) E (bl s))) : W P G (.loop c) Q A := by
  refine W.loop (σ := { s : σ // inv s }) (fun s => mkSt n (f s.1) E (bl s.1)) (fun s => μ s.1) ⟨s0, h0.1⟩ h0.2 fun s => ?_
  refine W.mono (round s.1 s.2) fun e A' h => ?_
  cases e with
  | normal => obtain ⟨s', h1, h2, h3⟩ := h; exact ⟨⟨s', h1⟩, h2, h3⟩
  | exit id => exact h
  | goto id => exact h
  | ret => exact h
  | panic c => exact h
  | outgrown => exact h
abbrev vI (n : Int) : Prop × AV := (True, .pv (.one (.int .i64 n)))
abbrev vS (n : Nat) : Prop × AV := (True, .slc n)
abbrev cI (n : Int) : PV := .one (.int .i64 n)
abbrev cB (b : Bool) : PV := .one (.bool b)
def App : List (Nat × (Prop × AV)) → List (Nat × (Prop × AV)) → List (Nat × (Prop × AV)) → Prop := fun f E env => env = f ++ E
theorem App.nil {E : List (Nat × (Prop × AV))} : App [] E E := rfl
theorem App.cons {e : Nat × (Prop × AV)} {f E env : List (Nat × (Prop × AV))} (h : App f E env) : App (e :: f) E (e :: env) := by unfold App at *; rw [h]; rfl
theorem W.norm {P : Program} {G : Ghost} {Q : Exit → St → Prop} {c : Code} {n : Nat} {f E env : List (Nat × (Prop × AV))} {bl : List (Nat × Blk)} (h : App f E env) (hw : W P G c Q (St.mk n env bl)) : W P G c Q (mkSt n f E bl) := by
  unfold App at h; subst h; exact hw
/-- An element of a list. -/
def nth {α : Type} [Inhabited α] (l : List α) (k : Nat) : α := l.getD k default
theorem getRowN {α : Type} [Inhabited α] {l : List α} {f : α → List Cell} {k : Nat} (h : k < l.length) : 0 ≤ (k : Int) ∧ (l.map f)[(k : Int).toNat]? = some (f (nth l k)) := by
  refine ⟨Int.natCast_nonneg k, ?_⟩
  simp [List.getElem?_eq_getElem h, nth, List.getD]
theorem getRowI {α : Type} [Inhabited α] {l : List α} {f : α → List Cell} {i : Int} (h : 0 ≤ i ∧ i < l.length) : 0 ≤ i ∧ (l.map f)[i.toNat]? = some (f (nth l i.toNat)) := getRow h
theorem drop_nth {α : Type} [Inhabited α] {l : List α} {k : Nat} (h : k < l.length) : l.drop k = nth l k :: l.drop (k + 1) := by
  rw [List.drop_eq_getElem_cons h]; simp [nth, List.getD, List.getElem?_eq_getElem h]
def InitE (args : List PV) (k : Nat) (env : List (Nat × (Prop × AV))) : Prop := env = initEnv args k
theorem InitE.nil {k : Nat} : InitE [] k [] := rfl
theorem InitE.cons {q : PV} {qs : List PV} {k : Nat} {env : List (Nat × (Prop × AV))} (h : InitE qs (k + 1) env) : InitE (q :: qs) k ((k, (True, .pv q)) :: env) := by unfold InitE at *; rw [h]; rfl
theorem W.init {P : Program} {G : Ghost} {Q : Exit → St → Prop} {c : Code} {n : Nat} {args : List PV} {env : List (Nat × (Prop × AV))} (h : InitE args 0 env) (hw : W P G c Q (St.mk n env [])) : W P G c Q (St.init n args) := by
  unfold InitE at h; subst h; exact hw
theorem InitE.c0 {q : PV} {qs : List PV} {env : List (Nat × (Prop × AV))} (h : InitE qs 1 env) : InitE (q :: qs) 0 ((0, (True, .pv q)) :: env) := InitE.cons h
theorem InitE.c1 {q : PV} {qs : List PV} {env : List (Nat × (Prop × AV))} (h : InitE qs 2 env) : InitE (q :: qs) 1 ((1, (True, .pv q)) :: env) := InitE.cons h
theorem InitE.c2 {q : PV} {qs : List PV} {env : List (Nat × (Prop × AV))} (h : InitE qs 3 env) : InitE (q :: qs) 2 ((2, (True, .pv q)) :: env) := InitE.cons h
theorem InitE.c3 {q : PV} {qs : List PV} {env : List (Nat × (Prop × AV))} (h : InitE qs 4 env) : InitE (q :: qs) 3 ((3, (True, .pv q)) :: env) := InitE.cons h
theorem ResL.nil {A : St} : ResL A [] [] := trivial
theorem ResL.cons {A : St} {t : Nat} {ts : List Nat} {q r : PV} {qs : List PV} {av : AV} (h : lk A.env t = some (True, av)) (hv : toPV A.blks av = some r) (hs : PSub r q) (ht : ResL A ts qs) : ResL A (t :: ts) (q :: qs) := ⟨⟨av, r, h, hv, hs⟩, ht⟩
end Lf
end
