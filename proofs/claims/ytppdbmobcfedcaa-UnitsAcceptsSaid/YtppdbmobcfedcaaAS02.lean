/-
  Part 2 of what the proof rests on.
-/
import Derived.Test.YtppdbmobcfedcaaAS01
import Derived.Orders
section
set_option linter.unusedVariables false
set_option linter.unusedSimpArgs false
namespace Lf
open Go Go.RowKit
/-- Values, row by row. -/
structure RowsRel (Φ : Frz) (xs : List Value) (sz : Nat) (rows : List (List Cell)) : Prop where
  len : xs.length = rows.length * sz
  row : ∀ r ∈ rows, r.length = sz
  get : ∀ (i j : Nat) (r : List Cell) (c : Cell), rows[i]? = some r → r[j]? = some c → ∃ v, xs[i * sz + j]? = some v ∧ Rel Φ v c
theorem idx_lt {i n j sz : Nat} (hi : i < n) (hj : j < sz) : i * sz + j < n * sz := by
  calc i * sz + j < i * sz + sz := by omega
    _ = (i + 1) * sz := by rw [Nat.add_mul, Nat.one_mul]
    _ ≤ n * sz := Nat.mul_le_mul_right _ (by omega)
theorem RowsRel.append {Φ : Frz} {xs ys : List Value} {sz : Nat} {rs ss : List (List Cell)} (h : RowsRel Φ xs sz rs) (h' : RowsRel Φ ys sz ss) : RowsRel Φ (xs ++ ys) sz (rs ++ ss) where
  len := by simp [h.len, h'.len, Nat.add_mul]
  row := fun r hr => (List.mem_append.1 hr).elim (h.row r) (h'.row r)
  get := fun i j r c hi hj => by
    have hjl : ∀ (q : List (List Cell)), (∀ r ∈ q, r.length = sz) → r ∈ q → j < sz := fun q hq hm => by
      have := (List.getElem?_eq_some_iff.1 hj).1
      rw [hq r hm] at this; exact this
    rw [List.getElem?_append] at hi
    split at hi
    · rename_i hlt
      obtain ⟨v, h1, h2⟩ := h.get i j r c hi hj
      refine ⟨v, ?_, h2⟩
      rw [List.getElem?_append_left (by rw [h.len]; exact idx_lt hlt (hjl rs h.row (List.mem_of_getElem? hi)))]
      exact h1
    · rename_i hge
      obtain ⟨v, h1, h2⟩ := h'.get (i - rs.length) j r c hi hj
      refine ⟨v, ?_, h2⟩
      have e : i * sz + j = rs.length * sz + ((i - rs.length) * sz + j) := by
        have : i = rs.length + (i - rs.length) := by omega
        calc i * sz + j = (rs.length + (i - rs.length)) * sz + j := by rw [← this]
          _ = _ := by rw [Nat.add_mul]; omega
      rw [e, List.getElem?_append_right (by rw [h.len]; omega), h.len]
      rw [show rs.length * sz + ((i - rs.length) * sz + j) - rs.length * sz = (i - rs.length) * sz + j by omega]
      exact h1
theorem RowsRel.nil {Φ : Frz} {sz : Nat} : RowsRel Φ [] sz [] where
  len := by simp
  row := fun r h => by cases h
  get := fun i j r c hi => by simp at hi
theorem RowsRel.oneCell {Φ : Frz} {xs : List Value} {sz : Nat} {rs : List (List Cell)} (h : RowsRel Φ xs sz rs) : ∀ u ∈ xs, u.oneCell' = true := fun u hu => by
  obtain ⟨k, hk, rfl⟩ := List.mem_iff_getElem.1 hu
  have hlen := h.len
  have hsz : 0 < sz := by
    cases sz with
    | zero => simp at hlen; subst hlen; simp at hk
    | succ n => omega
  have h1 : k / sz < rs.length := by
    rw [Nat.div_lt_iff_lt_mul hsz]; omega
  have h2 : k % sz < sz := Nat.mod_lt _ hsz
  have h3 : (rs[k / sz]).length = sz := h.row _ (List.getElem_mem _)
  obtain ⟨v, h4, h5⟩ := h.get (k / sz) (k % sz) rs[k / sz] (rs[k / sz][k % sz]'(by omega)) (List.getElem?_eq_getElem _) (List.getElem?_eq_getElem _)
  have e : k / sz * sz + k % sz = k := by rw [Nat.mul_comm]; exact Nat.div_add_mod _ _
  rw [e, List.getElem?_eq_getElem hk] at h4
  simp only [Option.some.injEq] at h4
  rw [h4]; exact h5.one.2
section
variable {P : Program} {G : Ghost} {A : St} {Φ : Frz} {β : Own} {a : Act} {w w' : World}
theorem BlkRel.owns {b cap : Nat} {B : Blk} (h : BlkRel Φ w b cap B) (ho : B.ob = false) : ∃ xs, w.ownsRow 0 B.E B.sz (.slice (some ⟨b, 0, none⟩) B.rows.length cap) B.rows.length xs ∧ RowsRel Φ xs B.sz B.rows := by
  obtain ⟨cur, g1, g2, g3, g4, g5, g6⟩ := h.cells ho
  have hle : B.rows.length * B.sz ≤ cur.size := by rw [g4]; exact Nat.mul_le_mul_right _ g2
  refine ⟨cur.toList.take (B.rows.length * B.sz), ⟨by simp; omega, .inr ⟨b, cap, cur, rfl, Nat.zero_le _, g1, g2, g3, g4, rfl⟩⟩, ⟨by simp; omega, g5, fun i j r c hi hj => ?_⟩⟩
  obtain ⟨v, h1, h2⟩ := g6 i j r c hi hj
  refine ⟨v, ?_, h2⟩
  have hlt := idx_lt (List.getElem?_eq_some_iff.1 hi).1 (by have := (List.getElem?_eq_some_iff.1 hj).1; rwa [g5 r (List.mem_of_getElem? hi)] at this : j < B.sz)
  rw [List.getElem?_take, if_pos hlt]
  simpa using h1
theorem BlkRel.of_owns {b cap E sz n : Nat} {rows : List (List Cell)} {xs : List Value} (h : w.ownsRow 0 E sz (.slice (some ⟨b, 0, none⟩) n cap) n xs) (hr : RowsRel Φ xs sz rows) (hn : rows.length = n) (ho : Nat.ble mapTag E = false) :
    BlkRel Φ w b cap ⟨E, sz, rows⟩ := by
  obtain ⟨hl, h⟩ := h
  rcases h with ⟨h, _⟩ | ⟨g, c, cur, h1, _, h2, h3, h4, h5, h6⟩
  · cases h
  · simp only [Value.slice.injEq, Option.some.injEq, Addr.mk.injEq, and_true, true_and] at h1
    obtain ⟨rfl, rfl⟩ := h1
    refine .inl ⟨ho, cur, h2, by simpa [hn] using h3, h4, h5, hr.row, fun i j r c hi hj => ?_⟩
    obtain ⟨v, k1, k2⟩ := hr.get i j r c hi hj
    refine ⟨v, ?_, k2⟩
    rw [← h6, List.getElem?_take] at k1
    split at k1
    · simpa using k1
    · cases k1
/-- The elements of a slice value, as1 the machine sees them. -/
def Src (Φ : Frz) (w : World) (v : Value) (sz : Nat) (rows : List (List Cell)) : Prop :=
  (v = .slice none 0 0 ∧ rows = []) ∨ ∃ ad cap xs, v = .slice (some ad) rows.length cap ∧ RowsRel Φ xs sz rows ∧ ∀ (j : Nat) (u : Value), xs[j]? = some u → w.cell? (ad.add j) = some u
theorem src_own (hs : Sat G Φ β A a w) {v : Value} {n : Nat} {B : Blk} (h : AVRel Φ β A.blks v (.slc n)) (hl : lk A.blks n = some B) : Src Φ w v B.sz B.rows := by
  obtain ⟨B', h1, hob, h2⟩ := h
  obtain rfl : B = B' := by rw [hl] at h1; exact Option.some.inj h1
  rcases h2 with ⟨h2, rfl⟩ | ⟨b, cap, h2, rfl⟩
  · exact .inl ⟨rfl, hs.vir n B h1 h2⟩
  · obtain ⟨xs, k1, k2⟩ := (hs.blk n B b cap h1 h2).1.owns hob
    exact .inr ⟨⟨b, 0, none⟩, cap, xs, rfl, k2, k1.cells (g := b) rfl⟩
theorem src_data (hf : Fits Φ w) {v : Value} {sz : Nat} {rows : List (List Cell)} (h : Rel Φ v (.sl rows)) (hsz : ∀ r ∈ rows, r.length = sz) (hz : 0 < sz) : Src Φ w v sz rows := by
  cases h with
  | sl0 => exact .inl ⟨rfl, rfl⟩
  | slE a cap => exact .inr ⟨a, cap, [], rfl, RowsRel.nil, fun j u h => by simp at h⟩
  | sl b off len cap sz' _ f hlen hcap hsz' hc hr =>
    by_cases he : rows = []
    · subst he
      refine .inr ⟨⟨b, off, none⟩, cap, [], by rw [← hlen], RowsRel.nil, fun j u h => by simp at h⟩
    · obtain ⟨r0, hr0⟩ := List.exists_mem_of_ne_nil rows he
      obtain rfl : sz = sz' := by rw [← hsz r0 hr0, hsz' r0 hr0]
      have hk : ∀ k, k < rows.length * sz → ∃ (r : List Cell) (c : Cell), rows[k / sz]? = some r ∧ r[k % sz]? = some c := fun k hk => by
        have h1 : k / sz < rows.length := by rw [Nat.div_lt_iff_lt_mul hz]; omega
        have h2 : k % sz < sz := Nat.mod_lt _ hz
        have h3 : (rows[k / sz]).length = sz := hsz _ (List.getElem_mem _)
        exact ⟨rows[k / sz], rows[k / sz][k % sz]'(by omega), List.getElem?_eq_getElem _, List.getElem?_eq_getElem _⟩
      refine .inr ⟨⟨b, off, none⟩, cap, (List.range (rows.length * sz)).map fun k => f (k / sz) (k % sz), by rw [hlen], ⟨by simp, hsz, fun i j r c hi hj => ?_⟩, fun j u hu => ?_⟩
      · have hj' : j < sz := by have := (List.getElem?_eq_some_iff.1 hj).1; rwa [hsz r (List.mem_of_getElem? hi)] at this
        have hlt := idx_lt (List.getElem?_eq_some_iff.1 hi).1 hj'
        have e1 : (i * sz + j) / sz = i := by rw [Nat.mul_comm, Nat.mul_add_div hz, Nat.div_eq_of_lt hj', Nat.add_zero]
        have e2 : (i * sz + j) % sz = j := by rw [Nat.mul_comm, Nat.mul_add_mod, Nat.mod_eq_of_lt hj']
        exact ⟨f i j, by simp [List.getElem?_range hlt, e1, e2], hr i j r c hi hj⟩
      · have hlt : j < rows.length * sz := by
          have := (List.getElem?_eq_some_iff.1 hu).1
          simpa using this
        simp only [List.getElem?_map, List.getElem?_range hlt, Option.map_some, Option.some.injEq] at hu
        subst hu
        obtain ⟨r, c, k1, k2⟩ := hk j hlt
        have := fits_cell hf (hc _ _ _ _ k1 k2)
        rw [Addr.add_lit]
        have e : j / sz * sz + j % sz = j := by rw [Nat.mul_comm]; exact Nat.div_add_mod _ _
        rw [e] at this
        exact this
variable {T : TT} (hT : TOK P T)
include hT
omit hT in
theorem appendcall_run {ρ : Operand → Value} {o : Oper} {t : Nat} {x y : Operand} (ho : o.op = .call { callee := .builtin .append, args := #[x, y], argTypes := #[t, t] }) {w w' : World} {v : Value}
    (h : (Builtin.append_ #[t, t] o.type #[ρ x, ρ y]).run P w = .ok v w') : (execOp ρ o).run P w = .ok (.value v) w' := by
  have e : execOp ρ o = (do let d ← resolve ρ { callee := .builtin .append, args := #[x, y], argTypes := #[t, t] } o.type; invoke d.target d.args) := by simp only [execOp, ho]
  rw [e]
  have hm : (#[x, y] : Array Operand).map ρ = #[ρ x, ρ y] := by simp
  simp only [resolve, pure_bind, invoke]
  show ((do pure (Next.value (← Builtin.append_ #[t, t] o.type ((#[x, y] : Array Operand).map ρ))) : Sem Next)).run P w = _
  rw [hm]
  simp [h]
omit hT in
theorem bindOwn_self {d n b cap : Nat} : bindOwn β d n b cap d = some (b, cap) := if_pos rfl
omit hT in
/-- Name d names an empty slice that has no memory. -/
theorem Sat.bindNil (hs : Sat G Φ β A a w) {d n E sz : Nat} : Sat G Φ (fun m => if m = d ∨ m = n then none else β m) (A.bind d n ⟨E, sz, []⟩) a w := by
  have hl : ∀ m, m ≠ d → m ≠ n → lk (A.bind d n ⟨E, sz, []⟩).blks m = lk A.blks m := fun m h1 h2 => by simp only [St.bind]; rw [lk_cons, if_neg (Ne.symm h1), lk_cons, if_neg (Ne.symm h2)]
  refine ⟨hs.kept, hs.fits, hs.old, hs.siz, hs.dfr, fun t q v h => ?_, fun m B' b' cap' h1 h2 => ?_, fun m B' h1 h2 => ?_, fun m m' B1 B2 b' c1 c2 h1 h2 h3 h4 => ?_⟩
  · obtain ⟨v1, h1, rfl⟩ := lk_fgt d _ t q v h
    obtain ⟨v2, h2, rfl⟩ := lk_fgt n _ t q v1 h1
    refine ⟨fun hq => ?_, (hs.env t q v2 h2).2⟩
    have h3 := (hs.env t q v2 h2).1 hq
    cases hn : v2.ment n with
    | true => simp only [cond_true, AV.ment, cond_false]; trivial
    | false =>
      simp only [cond_false]
      cases hd : v2.ment d with
      | true => simp only [cond_true]; trivial
      | false =>
        simp only [cond_false]
        cases v2 with
        | pv p => exact h3
        | tup l => exact h3
        | top => trivial
        | addr m i off =>
          have e1 : m ≠ d := fun e => by subst e; simp [AV.ment] at hd
          have e2 : m ≠ n := fun e => by subst e; simp [AV.ment] at hn
          obtain ⟨b', cap', B', g1, g2, g3⟩ := h3
          exact ⟨b', cap', B', by simp [e1, e2, g1], by rw [hl m e1 e2]; exact g2, g3⟩
        | slc m =>
          have e1 : m ≠ d := fun e => by subst e; simp [AV.ment] at hd
          have e2 : m ≠ n := fun e => by subst e; simp [AV.ment] at hn
          obtain ⟨B', g2, g3⟩ := h3
          exact ⟨B', by rw [hl m e1 e2]; exact g2, by simpa [e1, e2] using g3⟩
        | mp m =>
          have e1 : m ≠ d := fun e => by subst e; simp [AV.ment] at hd
          have e2 : m ≠ n := fun e => by subst e; simp [AV.ment] at hn
          obtain ⟨b', cap', B', g1, g2, g3⟩ := h3
          exact ⟨b', cap', B', by simp [e1, e2, g1], by rw [hl m e1 e2]; exact g2, g3⟩
        | mpn m bb =>
          have e1 : m ≠ d := fun e => by subst e; simp [AV.ment] at hd
          have e2 : m ≠ n := fun e => by subst e; simp [AV.ment] at hn
          obtain ⟨b', cap', B', g1, g2, g3⟩ := h3
          exact ⟨b', cap', B', by simp [e1, e2, g1], by rw [hl m e1 e2]; exact g2, g3⟩
        | itr k m =>
          have e1 : m ≠ d := fun e => by subst e; simp [AV.ment] at hd
          have e2 : m ≠ n := fun e => by subst e; simp [AV.ment] at hn
          have e3 : k ≠ d := fun e => by subst e; simp [AV.ment] at hd
          have e4 : k ≠ n := fun e => by subst e; simp [AV.ment] at hn
          obtain ⟨b', cap', B', M, c, g1, g2, g3, g4, g5, g6⟩ := h3
          exact ⟨b', cap', B', M, c, by simp [e3, e4, g1], by rw [hl k e3 e4]; exact g2, g3, by simp [e1, e2, g4], by rw [hl m e1 e2]; exact g5, g6⟩
        | pin m b0 c0 f =>
          have e1 : m ≠ d := fun e => by subst e; simp [AV.ment] at hd
          have e2 : m ≠ n := fun e => by subst e; simp [AV.ment] at hn
          obtain ⟨B', g1, g2, g3⟩ := h3
          exact ⟨B', by simp [e1, e2, g1], by rw [hl m e1 e2]; exact g2, g3⟩
  · by_cases e : m = d ∨ m = n
    · simp [e] at h2
    · simp only [e, if_false] at h2
      exact hs.blk m B' b' cap' (by rw [← hl m (fun x => e (.inl x)) (fun x => e (.inr x))]; exact h1) h2
  · by_cases e1 : m = d
    · simp only [St.bind] at h1
      rw [lk_cons, if_pos e1.symm] at h1
      obtain rfl := Option.some.inj h1; rfl
    · by_cases e2 : m = n
      · simp only [St.bind] at h1
        rw [lk_cons, if_neg (Ne.symm e1), lk_cons, if_pos e2.symm] at h1
        obtain rfl := Option.some.inj h1; rfl
      · have e : ¬ (m = d ∨ m = n) := fun h => h.elim e1 e2
        simp only [e, if_false] at h2
        exact hs.vir m B' (by rw [← hl m e1 e2]; exact h1) h2
  · have e : ¬ (m = d ∨ m = n) := fun e => by simp [e] at h3
    have e' : ¬ (m' = d ∨ m' = n) := fun e => by simp [e] at h4
    simp only [e, if_false] at h3
    simp only [e', if_false] at h4
    exact hs.inj m m' B1 B2 b' c1 c2 (by rw [← hl m (fun x => e (.inl x)) (fun x => e (.inr x))]; exact h1) (by rw [← hl m' (fun x => e' (.inl x)) (fun x => e' (.inr x))]; exact h2) h3 h4
omit hT in
theorem Sat.putSlc (hs : Sat G Φ β A a w) {d b cap : Nat} {B : Blk} (hn : d < A.n) (hl : lk A.blks d = some B) (hob : B.ob = false) (hb : β d = some (b, cap)) : Sat G Φ β (A.set d True (.slc d)) (a.put (some d) (.slice (some ⟨b, 0, none⟩) B.rows.length cap)) w :=
  hs.put hn ⟨B, hl, hob, .inr ⟨b, cap, hb, rfl⟩⟩
omit hT in
theorem Sat.putNil (hs : Sat G Φ β A a w) {d : Nat} {B : Blk} (hn : d < A.n) (hl : lk A.blks d = some B) (hob : B.ob = false) (hb : β d = none) : Sat G Φ β (A.set d True (.slc d)) (a.put (some d) (.slice none 0 0)) w :=
  hs.put hn ⟨B, hl, hob, .inl ⟨hb, rfl⟩⟩
omit hT in
theorem append_new {d n e need cap : Nat} {te : TI} {sz : Nat} {xs : List Value} {rows : List (List Cell)} {z : Value} (hob : Nat.ble mapTag e = false) (hn : d < A.n) (hzs : z.cells.size = sz) (hs : Sat G Φ β A a w) (hx : RowsRel Φ xs sz rows) (hlen : rows.length = need) (hge : need ≤ cap) (hcm : cap ≤ maxLen) :
    Sat G Φ (bindOwn β d n w.heap.size cap) ((A.bind d n ⟨e, sz, rows⟩).set d True (.slc d)) (a.put (some d) (.slice (some ⟨w.heap.size, 0, none⟩) need cap)) (w.drew.alloc (.cells (xs.toArray ++ Builtin.zeroCells z.cells (cap - need)) e)) := by
  obtain ⟨h1, h2, h3⟩ := hs.new_ok
  have hb := hs.bind (w' := w.drew.alloc (.cells (xs.toArray ++ Builtin.zeroCells z.cells (cap - need)) e)) (d := d) (n := n) (b := w.heap.size) (cap := cap) (B := ⟨e, sz, rows⟩) (row := none) ⟨rfl, rfl, rfl, by simp, fun k hk _ => heap_alloc_old w.drew _ hk⟩ (fun k e => by cases e)
    (.inl ⟨hob, _, heap_alloc_new w.drew _, by simp [hlen, hge], hcm, by simp only [Array.size_append, List.size_toArray, size_zeroCells, hzs, hx.len, hlen, ← Nat.add_mul]; congr 1; omega, hx.row, fun i j r c hi hj => ?_⟩) h1 h2 (fun m B' cap' _ _ h => h3 m B' cap' h)
  · have := hb.putSlc (d := d) hn (by simp only [St.bind]; rw [lk_cons, if_pos rfl]) (by exact hob) bindOwn_self
    simpa [hlen] using this
  · obtain ⟨v, k1, k2⟩ := hx.get i j r c hi hj
    refine ⟨v, ?_, k2⟩
    have hlt := (List.getElem?_eq_some_iff.1 k1).1
    rw [Array.getElem?_append_left (by simpa using hlt)]
    simpa using k1
/-- append to an own slice (or to nil). -/
theorem append_any {o : Oper} {t e d n : Nat} {x y : Operand} {ti te : TI} {sz : Nat} {rows rows2 : List (List Cell)} (ho : o.op = .call { callee := .builtin .append, args := #[x, y], argTypes := #[t, t] })
    (hd : o.dst = some d) (hn : d < A.n) (ht : T t = some ti) (hk : ti.kind = .slice e) (he : T e = some te) (hzl : te.zero.cells.length = te.sz) (hsz : te.sz = sz) (hz : 0 < sz)
    (hb : (rows.length + rows2.length) * te.bytes ≤ 140737488355328) (hb' : rows.length + rows2.length ≤ 140737488355328)
    (hs : Sat G Φ β A a w) (hx : (a.eval x = .slice none 0 0 ∧ rows = []) ∨ ∃ b cap, a.eval x = .slice (some ⟨b, 0, none⟩) rows.length cap ∧ BlkRel Φ w b cap ⟨e, sz, rows⟩ ∧ ¬ G.K b ∧ Φ b = none ∧ ∀ m B' cap', m ≠ d → m ≠ n → lk A.blks m = some B' → β m ≠ some (b, cap'))
    (hy : Src Φ w (a.eval y) sz rows2) :
    ∃ u w' Φ' β', (execOp a.eval o).run P w = .ok (.value u) w' ∧ Sat G Φ' β' ((A.bind d n ⟨e, sz, rows ++ rows2⟩).set d True (.slc d)) (a.put o.dst u) w' ∧ Φ.le Φ' := by
  have hu : P.underlying t = some (.slice e) := by have := (hT _ _ ht).kind; rw [hk] at this; exact this
  obtain ⟨i, hi, hisz, hib, z, hzz, hrel⟩ := (hT e te he).info
  have hzs : z.cells.size = sz := by have := (hrel Φ).cells.length; rw [← hsz, ← hzl, ← this]; simp
  have hml : rows.length + rows2.length ≤ maxLen := by unfold maxLen; omega
  have hi2 : i.size = sz := by rw [hisz, hsz]
  subst hi2
  rw [hd]
  have hob : Nat.ble mapTag e = false := (hT e te he).small
  have nilv : ∀ (E sz : Nat), lk (A.bind d n ⟨E, sz, []⟩).blks d = some ⟨E, sz, []⟩ := fun E sz => by simp only [St.bind]; rw [lk_cons, if_pos rfl]
  rcases hx with ⟨hxv, rfl⟩ | ⟨b, cap, hxv, hblk, hK, hP, hoth⟩
  · -- onto nothing
    rcases hy with ⟨hyv, rfl⟩ | ⟨ad, capy, ys, hyv, hys, hcells⟩
    · refine ⟨.slice none 0 0, w, Φ, _, appendcall_run ho ?_, (hs.bindNil (d := d) (n := n) (E := e) (sz := i.size)).putNil hn (nilv _ _) hob (by simp), Φ.le_refl⟩
      rw [hxv, hyv]
      exact run_append_owned_none w 0 t o.type e i i.size hu hi _ _ _ (World.ownsRow_nil w 0 e i.size)
    · by_cases hm : rows2.length = 0
      · have hr2 : rows2 = [] := List.eq_nil_of_length_eq_zero hm
        subst hr2
        obtain ⟨v', w', k1, k2, k3, k4⟩ := run_append_own (P := P) w 0 t o.type e i z i.size i.bytes hu hi hzz rfl rfl hzs hz _ _ _ (World.ownsRow_nil w 0 e i.size) ad 0 capy ys (by simpa using hys.len) hcells hys.oneCell (by simp [maxLen]) (by simp) (Nat.zero_le _)
        have hv' : v' = .slice none 0 0 := k4.2 ⟨rfl, rfl⟩
        subst hv'
        have hys0 : ys = [] := List.eq_nil_of_length_eq_zero (by simpa using hys.len)
        subst hys0
        have hrun : (Builtin.append_ #[t, t] o.type #[.slice none 0 0, .slice (some ad) 0 capy]).run P w = .ok (.slice none 0 0) w := by
          simp [Builtin.append_, run_underlying hu, Go.sizeOf, typeInfo, hi, Builtin.lenOf, Builtin.firstCells, loadCells, loadCellsFrom]
        refine ⟨.slice none 0 0, w, Φ, _, appendcall_run ho ?_, (hs.bindNil (d := d) (n := n) (E := e) (sz := i.size)).putNil hn (nilv _ _) hob (by simp), Φ.le_refl⟩
        rw [hxv, hyv]; exact hrun
      · have hr := run_append_nil (P := P) w t o.type e i z hu hi hzz ad rows2.length capy ys hys.len hcells (by omega) (by simp at hb'; omega) (by simp only [List.length_nil, Nat.zero_add] at hb; rw [hib]; omega)
        refine ⟨_, _, Φ, _, appendcall_run ho (by rw [hxv, hyv]; exact hr), append_new (te := te) hob hn hzs hs (by simpa using hys) (by simp) (grownCap_ge w _ _ _) (grownCap_le_maxLen w _ _ _ (by simpa using hml)), Φ.le_refl⟩
  · obtain ⟨xs, hown, hxs⟩ := hblk.owns hob
    simp only at hown hxs
    rcases hy with ⟨hyv, rfl⟩ | ⟨ad, capy, ys, hyv, hys, hcells⟩
    · have hb2 := hs.bind (w' := w) (d := d) (n := n) (b := b) (cap := cap) (B := ⟨e, i.size, rows⟩) (row := none) ⟨rfl, rfl, rfl, Nat.le_refl _, fun _ _ _ => rfl⟩ (fun k e => by cases e) hblk hK hP hoth
      have := hb2.putSlc (d := d) hn (by simp only [St.bind]; rw [lk_cons, if_pos rfl]) (by exact hob) bindOwn_self
      refine ⟨.slice (some ⟨b, 0, none⟩) rows.length cap, w, Φ, _, appendcall_run ho ?_, by simpa using this, Φ.le_refl⟩
      rw [hxv, hyv]
      exact run_append_owned_none w 0 t o.type e i i.size hu hi _ _ _ hown
    · by_cases hroom : rows.length + rows2.length ≤ cap
      · obtain ⟨w', k1, k2, k3⟩ := run_append_fits (P := P) w 0 t o.type e i i.size hu hi rfl b rows.length cap xs hown ad rows2.length capy ys hys.len hcells hys.oneCell hroom
        have hb2 := hs.bind (w' := w') (d := d) (n := n) (b := b) (cap := cap) (B := ⟨e, i.size, rows ++ rows2⟩) (row := some b) k3 (fun k e => by cases e; rfl) (BlkRel.of_owns k2 (hxs.append hys) (by simp) hob) hK hP hoth
        have := hb2.putSlc (d := d) hn (by simp only [St.bind]; rw [lk_cons, if_pos rfl]) (by exact hob) bindOwn_self
        exact ⟨_, w', Φ, _, appendcall_run ho (by rw [hxv, hyv]; exact k1), by simpa using this, Φ.le_refl⟩
      · have hr := run_append_grow (P := P) w t o.type e i z hu hi hzz ⟨b, 0, none⟩ rows.length cap xs hown.1 (hown.cells (g := b) rfl) ad rows2.length capy ys hys.len hcells (by omega) (by omega) (growslice_fits (by omega) (by rw [hib]; exact hb))
        have hnew := append_new (te := te) (d := d) (n := n) (e := e) (z := z) (cap := grownCap w (rows.length + rows2.length) cap e) hob hn hzs hs (hxs.append hys) (by simp) (grownCap_ge w _ _ _) (grownCap_le_maxLen w _ _ _ hml)
        have ea : (xs ++ ys).toArray = xs.toArray ++ ys.toArray := by simp
        rw [ea] at hnew
        exact ⟨_, _, Φ, _, appendcall_run ho (by rw [hxv, hyv]; exact hr), hnew, Φ.le_refl⟩
/-- append to an own slice: the old one is not looked at any more. -/
theorem E_append {o : Oper} {t e d n m : Nat} {x y : Operand} {ti te : TI} {B C : Blk} (ho : o.op = .call { callee := .builtin .append, args := #[x, y], argTypes := #[t, t] })
    (hd : o.dst = some d) (hn : d < A.n) (ht : T t = some ti) (hk : ti.kind = .slice e) (he : T e = some te) (hzl : te.zero.cells.length = te.sz) (hz : 0 < te.sz)
    (hx : Ev A True x (.slc n)) (hl : lk A.blks n = some B) (hE : B.E = e) (hsz : B.sz = te.sz)
    (hy : Ev A True y (.slc m)) (hm : lk A.blks m = some C) (hCsz : C.sz = te.sz) (hdm : d = n ∨ lk A.blks d = none ∨ d ≠ n)
    (hb : (B.rows.length + C.rows.length) * te.bytes ≤ 140737488355328) (hb' : B.rows.length + C.rows.length ≤ 140737488355328) :
    EffOp P G A o ((A.bind d n ⟨e, te.sz, B.rows ++ C.rows⟩).set d True (.slc d)) := EffOp.of_val fun Φ β a w hs => by
  obtain ⟨B', h1, hob, h2⟩ := hs.ev hx trivial
  obtain rfl : B = B' := by rw [hl] at h1; exact Option.some.inj h1
  have hsrc := src_own hs (hs.ev hy trivial) hm
  rw [hCsz] at hsrc
  refine append_any hT (n := n) ho hd hn ht hk he hzl rfl hz hb hb' hs ?_ hsrc
  rcases h2 with ⟨h2, h3⟩ | ⟨b, cap, h2, h3⟩
  · exact .inl ⟨h3, hs.vir n B hl h2⟩
  · obtain ⟨g1, g2, g3⟩ := hs.blk n B b cap hl h2
    refine .inr ⟨b, cap, h3, ?_, g2, g3, fun m' B' cap' e1 e2 q1 q2 => e2 (hs.inj m' n B' B b cap' cap q1 hl q2 h2)⟩
    obtain ⟨E', sz', rows'⟩ := B
    simp only at hE hsz
    subst hE hsz
    exact g1
theorem E_append_data {o : Oper} {t e d n : Nat} {x y : Operand} {ti te : TI} {B : Blk} {rows2 : List (List Cell)} (ho : o.op = .call { callee := .builtin .append, args := #[x, y], argTypes := #[t, t] })
    (hd : o.dst = some d) (hn : d < A.n) (ht : T t = some ti) (hk : ti.kind = .slice e) (he : T e = some te) (hzl : te.zero.cells.length = te.sz) (hz : 0 < te.sz)
    (hx : Ev A True x (.slc n)) (hl : lk A.blks n = some B) (hE : B.E = e) (hsz : B.sz = te.sz)
    (hy : Ev A True y (.pv (.one (.sl rows2)))) (hrows : ∀ r ∈ rows2, r.length = te.sz)
    (hb : (B.rows.length + rows2.length) * te.bytes ≤ 140737488355328) (hb' : B.rows.length + rows2.length ≤ 140737488355328) :
    EffOp P G A o ((A.bind d n ⟨e, te.sz, B.rows ++ rows2⟩).set d True (.slc d)) := EffOp.of_val fun Φ β a w hs => by
  obtain ⟨B', h1, hob, h2⟩ := hs.ev hx trivial
  obtain rfl : B = B' := by rw [hl] at h1; exact Option.some.inj h1
  refine append_any hT (n := n) ho hd hn ht hk he hzl rfl hz hb hb' hs ?_ (src_data hs.fits (hs.ev hy trivial) hrows hz)
  rcases h2 with ⟨h2, h3⟩ | ⟨b, cap, h2, h3⟩
  · exact .inl ⟨h3, hs.vir n B hl h2⟩
  · obtain ⟨g1, g2, g3⟩ := hs.blk n B b cap hl h2
    refine .inr ⟨b, cap, h3, ?_, g2, g3, fun m' B' cap' e1 e2 q1 q2 => e2 (hs.inj m' n B' B b cap' cap q1 hl q2 h2)⟩
    obtain ⟨E', sz', rows'⟩ := B
    simp only at hE hsz
    subst hE hsz
    exact g1
end
end Lf
end
section
set_option linter.unusedVariables false
set_option linter.unusedSimpArgs false
namespace Lf
open Go Go.RowKit
section
variable {P : Program} {G : Ghost} {A : St} {Φ : Frz} {β : Own} {a : Act} {w w' : World}
/-- The parts of a literal: places and data. -/
def EvP (A : St) (p : Prop) : List (Nat × Operand) → List (Nat × PV) → Prop
  | [], [] => True
  | (i, x) :: xs, (j, q) :: qs => (i = j ∧ ∃ av, Ev A p x av ∧ toPV A.blks av = some q ∧ av = .pv q) ∧ EvP A p xs qs
  | _, _ => False
/-- The cells of a literal: what is not named keeps its zero. -/
def fillC (place : Nat → Option (Nat × Nat)) (cells : List Cell) : List (Nat × PV) → Option (List Cell)
  | [] => some cells
  | (i, q) :: rest =>
    match place i with
    | none => none
    | some (off, size) => bif Nat.beq q.cells.length size && Nat.ble (off + size) cells.length then fillC place (splice cells off q.cells) rest else none
theorem foldl_set (cells : Array Value) : ∀ (vs : List Value) (cur : Array Value) (off k : Nat), off + k + vs.length ≤ cur.size →
    (vs.zipIdx k).foldl (fun cs (x : Value × Nat) => cs.setIfInBounds (off + x.2) x.1) cur = (cur.toList.take (off + k) ++ vs ++ cur.toList.drop (off + k + vs.length)).toArray
  | [], cur, off, k, h => by simp
  | v :: vs, cur, off, k, h => by
    have hl : off + k < cur.size := by simp at h; omega
    simp only [List.zipIdx_cons, List.foldl_cons]
    rw [foldl_set cells vs (cur.setIfInBounds (off + k) v) off (k + 1) (by simp at h ⊢; omega)]
    have e := list_seg_step cur.toList (off + k) v vs (by simp at h ⊢; omega)
    congr 1
    simpa [Array.toList_setIfInBounds, Nat.add_assoc] using e
theorem relL_splice {vs us : List Value} {cs ds : List Cell} {off : Nat} (h : RelL Φ vs cs) (h' : RelL Φ us ds) (hf : off + ds.length ≤ cs.length) : RelL Φ (vs.take off ++ us ++ vs.drop (off + us.length)) (splice cs off ds) := by
  have h1 := h.length
  have h2 := h'.length
  have ht : ∀ (n : Nat), RelL Φ (vs.take n) (cs.take n) := fun n => RelL.of_get (by simp [h1]) fun j c hj => by
    rw [List.getElem?_take] at hj
    split at hj
    · rename_i hjn
      obtain ⟨v, k1, k2⟩ := h.get hj
      exact ⟨v, by rw [List.getElem?_take, if_pos hjn]; exact k1, k2⟩
    · cases hj
  have hd : ∀ (n : Nat), RelL Φ (vs.drop n) (cs.drop n) := fun n => RelL.of_get (by simp [h1]) fun j c hj => by
    rw [List.getElem?_drop] at hj
    obtain ⟨v, k1, k2⟩ := h.get hj
    exact ⟨v, by rw [List.getElem?_drop]; exact k1, k2⟩
  unfold splice
  rw [h2]
  exact ((ht off).append h').append (hd _)
theorem fill_run {place : Nat → Option (Nat × Nat)} (hs : Sat G Φ β A a w) {p : Prop} (hp : p) : ∀ {ps : List (Nat × Operand)} {qs : List (Nat × PV)} {cells : Array Value} {cs res : List Cell}, EvP A p ps qs → RelL Φ cells.toList cs → fillC place cs qs = some res →
    ∃ out : Array Value, Instr.fill place cells (ps.map fun (i, x) => (i, a.eval x)) = some out ∧ RelL Φ out.toList res
  | [], [], cells, cs, res, _, hc, hf => by
    simp only [fillC, Option.some.injEq] at hf; subst hf
    exact ⟨cells, rfl, hc⟩
  | (i, x) :: ps, (j, q) :: qs, cells, cs, res, h, hc, hf => by
    obtain ⟨⟨rfl, av, h1, _, rfl⟩, h3⟩ := h
    have hv := PRel.cells (show PRel Φ (a.eval x) q from hs.ev h1 hp)
    simp only [fillC] at hf
    cases hpl : place i with
    | none => rw [hpl] at hf; cases hf
    | some os =>
      obtain ⟨off, size⟩ := os
      rw [hpl] at hf
      simp only at hf
      cases hb : Nat.beq q.cells.length size && Nat.ble (off + size) cs.length with
      | false => rw [hb] at hf; cases hf
      | true =>
        rw [hb] at hf
        simp only [cond_true] at hf
        simp only [Bool.and_eq_true] at hb
        have e1 : q.cells.length = size := Nat.eq_of_beq_eq_true hb.1
        have e2 : off + size ≤ cs.length := Nat.le_of_ble_eq_true hb.2
        have e3 : (a.eval x).cells.size = size := by have := hv.length; rw [← e1, ← this]; simp
        have e4 : cells.size = cs.length := by have := hc.length; rw [← this]; simp
        have hsp := relL_splice (Φ := Φ) hc hv (off := off) (by rw [e1]; exact e2)
        have hfold : (a.eval x).cells.zipIdx.foldl (fun cs (x : Value × Nat) => cs.setIfInBounds (off + x.2) x.1) cells = (cells.toList.take off ++ (a.eval x).cells.toList ++ cells.toList.drop (off + (a.eval x).cells.toList.length)).toArray := by
          rw [← Array.foldl_toList, Array.toList_zipIdx]
          have := foldl_set cells (a.eval x).cells.toList cells off 0 (by simp; omega)
          simpa using this
        obtain ⟨out, k1, k2⟩ := fill_run hs hp (place := place) h3 (cells := (cells.toList.take off ++ (a.eval x).cells.toList ++ cells.toList.drop (off + (a.eval x).cells.toList.length)).toArray) (by simpa using hsp) hf
        refine ⟨out, ?_, k2⟩
        simp only [List.map_cons, Instr.fill, hpl]
        rw [if_neg (by simp [e3]; omega), hfold]
        exact k1
variable {T : TT} (hT : TOK P T)
include hT
/-- Where the fields of a struct lie. -/
def placeS (T : TT) (fs : List (Nat × Nat)) (i : Nat) : Option (Nat × Nat) := (fs[i]?).bind fun f => (T f.2).map fun t => (f.1, t.sz)
theorem mapM_places {fields : Array Field} {fs : List (Nat × Nat)} (hm : fields.toList.map (fun f => (f.offset, f.type)) = fs) (hT' : ∀ f ∈ fs, (T f.2).isSome = true) (w : World) :
    ∃ places : Array (Nat × Nat), (fields.mapM fun f => (do pure (f.offset, ← Go.sizeOf f.type) : Sem (Nat × Nat))).run P w = .ok places w ∧ ∀ i, places[i]? = placeS T fs i := by
  have key : ∀ (l : List Field) (fs : List (Nat × Nat)), l.map (fun f => (f.offset, f.type)) = fs → (∀ f ∈ fs, (T f.2).isSome = true) →
      ∃ ps : List (Nat × Nat), (l.mapM fun f => (do pure (f.offset, ← Go.sizeOf f.type) : Sem (Nat × Nat))).run P w = .ok ps w ∧ ∀ i, ps[i]? = placeS T fs i := by
    intro l
    induction l with
    | nil => intro fs h _; subst h; exact ⟨[], by simp, fun i => by simp [placeS]⟩
    | cons f l ih =>
      intro fs h hT'
      subst h
      obtain ⟨ps, h1, h2⟩ := ih _ rfl (fun g hg => hT' g (List.mem_cons_of_mem _ hg))
      obtain ⟨ti, hti⟩ := Option.isSome_iff_exists.1 (hT' (f.offset, f.type) (by simp))
      refine ⟨(f.offset, ti.sz) :: ps, ?_, fun i => ?_⟩
      · have hti' : T f.type = some ti := hti
        rw [List.mapM_cons]
        simp only [Sem.run_bind, run_sizeOf hT hti', Result.andThen_ok, h1, Sem.run_pure]
      · cases i with
        | zero => simp only at hti; simp [placeS, hti]
        | succ i => simpa [placeS] using h2 i
  obtain ⟨ps, h1, h2⟩ := key fields.toList fs hm hT'
  refine ⟨ps.toArray, ?_, fun i => by simpa using h2 i⟩
  rw [Array.mapM_eq_mapM_toList]
  rw [Sem.run_map, h1]; rfl
theorem P_build {o : Oper} {p : Prop} {t : Nat} {ps : List (Nat × Operand)} {qs : List (Nat × PV)} {ti : TI} {fs : List (Nat × Nat)} {res : List Cell} (ho : o.op = .build t ps.toArray) (ht : T t = some ti) (hk : ti.kind = .struct fs) (hfs : ∀ f ∈ fs, (T f.2).isSome = true)
    (hx : EvP A p ps qs) (hf : fillC (placeS T fs) ti.zero.cells qs = some res) : PureOp P G A o p (.pv (.agg res)) := PureOp.val fun Φ β a w hs hp => by
  obtain ⟨fields, hu, hm⟩ : ∃ fields, P.underlying t = some (.struct fields) ∧ fields.toList.map (fun f => (f.offset, f.type)) = fs := by have := (hT _ _ ht).kind; rw [hk] at this; exact this
  obtain ⟨i, hi, hisz, hib, z, hzz, hrel⟩ := (hT t ti ht).info
  obtain ⟨places, hpl, hpe⟩ := mapM_places hT hm hfs w
  obtain ⟨out, k1, k2⟩ := fill_run (place := fun i => places[i]?) hs hp hx (hrel Φ).cells (by rw [show (fun i => places[i]?) = placeS T fs from funext hpe]; exact hf)
  refine ⟨.agg out, exec_val (m := Instr.build t (ps.toArray.map fun (i, x) => (i, a.eval x))) (by simp only [execOp, ho]) ?_, out, rfl, k2⟩
  have hz : (zeroValue t).run P w = .ok z w := by simp [zeroValue, typeInfo, hi, hzz]
  simp only [Instr.build, Sem.run_bind, hz, Result.andThen_ok, run_underlying hu, hpl]
  have e2 : (ps.toArray.map fun (x : Nat × Operand) => (x.1, a.eval x.2)).toList = ps.map fun (i, x) => (i, a.eval x) := by simp
  simp only [e2, k1]
  rfl
/-- The rows of a slice literal: every place named, in order. -/
def EvR (A : St) : List (Nat × Operand) → Nat → List (List Cell) → Prop
  | [], _, [] => True
  | (i, x) :: xs, k, r :: rs => (i = k ∧ ∃ q, Ev A True x (.pv q) ∧ q.cells = r) ∧ EvR A xs (k + 1) rs
  | _, _, _ => False
omit hT in
theorem fillR_run {sz : Nat} (hs : Sat G Φ β A a w) : ∀ {ps : List (Nat × Operand)} {k : Nat} {rs : List (List Cell)} {cells : Array Value}, EvR A ps k rs → (∀ r ∈ rs, r.length = sz) → cells.size = (k + rs.length) * sz →
    ∃ out : Array Value, Instr.fill (fun i => some (i * sz, sz)) cells (ps.map fun (i, x) => (i, a.eval x)) = some out ∧ out.size = cells.size ∧ (∀ j, j < k * sz → out[j]? = cells[j]?) ∧
      ∀ (i j : Nat) (r : List Cell) (c : Cell), rs[i]? = some r → r[j]? = some c → ∃ v, out[(k + i) * sz + j]? = some v ∧ Rel Φ v c
  | [], k, [], cells, _, _, _ => ⟨cells, rfl, rfl, fun _ _ => rfl, fun i j r c h => by simp at h⟩
  | (i, x) :: ps, k, r :: rs, cells, h, hr, hsz => by
    obtain ⟨⟨rfl, q, h1, rfl⟩, h3⟩ := h
    have hv := PRel.cells (show PRel Φ (a.eval x) q from hs.ev h1 trivial)
    have e1 : q.cells.length = sz := hr _ (by simp)
    have e3 : (a.eval x).cells.size = sz := by have := hv.length; rw [← e1, ← this]; simp
    have e5 : i * sz + sz ≤ cells.size := by
      rw [hsz]
      calc i * sz + sz = (i + 1) * sz := by rw [Nat.add_mul, Nat.one_mul]
        _ ≤ (i + (q.cells :: rs).length) * sz := Nat.mul_le_mul_right _ (by simp)
    have hfold : (a.eval x).cells.zipIdx.foldl (fun cs (x : Value × Nat) => cs.setIfInBounds (i * sz + x.2) x.1) cells = (cells.toList.take (i * sz) ++ (a.eval x).cells.toList ++ cells.toList.drop (i * sz + (a.eval x).cells.toList.length)).toArray := by
      rw [← Array.foldl_toList, Array.toList_zipIdx]
      have := foldl_set cells (a.eval x).cells.toList cells (i * sz) 0 (by simp; omega)
      simpa using this
    have key : ∀ m, (cells.toList.take (i * sz) ++ (a.eval x).cells.toList ++ cells.toList.drop (i * sz + (a.eval x).cells.toList.length)).toArray[m]? =
        if m < i * sz then cells[m]? else if m < i * sz + sz then (a.eval x).cells[m - i * sz]? else cells[m]? := fun m => by
      simp only [List.getElem?_toArray, List.getElem?_append, List.length_append, List.length_take, Array.length_toList, List.getElem?_take, List.getElem?_drop, Array.getElem?_toList, e3]
      have hm : min (i * sz) cells.size = i * sz := by omega
      rw [hm]
      by_cases k1 : m < i * sz
      · rw [if_pos (by omega), if_pos k1, if_pos k1, if_pos k1]
      · by_cases k2 : m < i * sz + sz
        · rw [if_pos k2, if_neg k1, if_neg k1, if_pos k2]
        · rw [if_neg k2, if_neg k1, if_neg k2]
          congr 1; omega
    have hsz2 : (cells.toList.take (i * sz) ++ (a.eval x).cells.toList ++ cells.toList.drop (i * sz + (a.eval x).cells.toList.length)).toArray.size = cells.size := by
      simp [e3]; omega
    obtain ⟨out, k1, k2, k3, k4⟩ := fillR_run hs (sz := sz) (k := i + 1) h3 (fun r h => hr r (List.mem_cons_of_mem _ h)) (cells := (cells.toList.take (i * sz) ++ (a.eval x).cells.toList ++ cells.toList.drop (i * sz + (a.eval x).cells.toList.length)).toArray)
      (by rw [hsz2, hsz]; congr 1; simp; omega)
    have hi1 : (i + 1) * sz = i * sz + sz := by rw [Nat.add_mul, Nat.one_mul]
    refine ⟨out, ?_, by rw [k2, hsz2], fun j hj => ?_, fun i' j r c hi hj => ?_⟩
    · simp only [List.map_cons, Instr.fill]
      rw [if_neg (by simp [e3]; omega), hfold]
      exact k1
    · rw [k3 j (by omega), key, if_pos hj]
    · cases i' with
      | zero =>
        simp at hi; subst hi
        have hjl : j < sz := by rw [← e1]; exact (List.getElem?_eq_some_iff.1 hj).1
        obtain ⟨v, q1, q2⟩ := relL_get' hv hj
        refine ⟨v, ?_, q2⟩
        rw [Nat.add_zero, k3 _ (by omega), key, if_neg (by omega), if_pos (by omega)]
        rw [show i * sz + j - i * sz = j by omega]
        exact q1
      | succ i' =>
        obtain ⟨v, q1, q2⟩ := k4 i' j r c (by simpa using hi) hj
        exact ⟨v, by rw [show i + (i' + 1) = i + 1 + i' by omega]; exact q1, q2⟩
theorem E_lit {o : Oper} {t e d n : Nat} {ps : List (Nat × Operand)} {rs : List (List Cell)} {ti te : TI} (ho : o.op = .buildSlice t n ps.toArray) (hd : o.dst = some d) (hn : d < A.n) (ht : T t = some ti) (hk : ti.kind = .slice e) (he : T e = some te)
    (hx : EvR A ps 0 rs) (hlen : rs.length = n) (hrs : ∀ r ∈ rs, r.length = te.sz) (hb : n * te.sz ≤ 16777216) (hn' : n ≤ 16777216) : EffOp P G A o ((A.bind d d ⟨e, te.sz, rs⟩).set d True (.slc d)) := EffOp.of_val fun Φ β a w hs => by
  have hu : P.underlying t = some (.slice e) := by have := (hT _ _ ht).kind; rw [hk] at this; exact this
  obtain ⟨i, hi, hisz, hib, z, hzz, hrel⟩ := (hT e te he).info
  have hrun : ∃ out : Array Value, (Instr.buildSlice t n (ps.toArray.map fun (i, x) => (i, a.eval x))).run P w = .ok (.slice (some ⟨w.heap.size, 0, none⟩) n n) (w.alloc (.cells out e)) ∧ out.size = n * te.sz ∧
      ∀ (i j : Nat) (r : List Cell) (c : Cell), rs[i]? = some r → r[j]? = some c → ∃ v, out[i * te.sz + j]? = some v ∧ Rel Φ v c := by
    have e2 : (ps.toArray.map fun (x : Nat × Operand) => (x.1, a.eval x.2)).toList = ps.map fun (i, x) => (i, a.eval x) := by simp
    have hz : (zeroValue e).run P w = .ok z w := by simp [zeroValue, typeInfo, hi, hzz]
    have hb' : ¬ (2 ^ 24 < n * te.sz) := by omega
    have main : ∀ (Z : Array Value), Z.size = n * te.sz → (∀ out, Instr.fill (fun i => some (i * te.sz, te.sz)) Z (ps.map fun (i, x) => (i, a.eval x)) = some out → (Instr.buildSlice t n (ps.toArray.map fun (i, x) => (i, a.eval x))).run P w = .ok (.slice (some ⟨w.heap.size, 0, none⟩) n n) (w.alloc (.cells out e))) →
        ∃ out : Array Value, (Instr.buildSlice t n (ps.toArray.map fun (i, x) => (i, a.eval x))).run P w = .ok (.slice (some ⟨w.heap.size, 0, none⟩) n n) (w.alloc (.cells out e)) ∧ out.size = n * te.sz ∧
          ∀ (i j : Nat) (r : List Cell) (c : Cell), rs[i]? = some r → r[j]? = some c → ∃ v, out[i * te.sz + j]? = some v ∧ Rel Φ v c := fun Z hZ hrun => by
      obtain ⟨out, k1, k2, _, k4⟩ := fillR_run hs (sz := te.sz) hx hrs (cells := Z) (by rw [hZ, hlen, Nat.zero_add])
      exact ⟨out, hrun out k1, by rw [k2, hZ], fun i j r c hi hj => by have := k4 i j r c hi hj; rwa [Nat.zero_add] at this⟩
    by_cases h0 : n * te.sz = 0
    · refine main ((Array.range (n * te.sz)).map ((#[] : Array Value)[· % (#[] : Array Value).size]!)) (by rw [Array.size_map, Array.size_range]) fun out k1 => ?_
      rw [h0] at k1
      simp only [Instr.buildSlice, Sem.run_bind, run_underlying hu, Result.andThen_ok, run_sizeOf hT he]
      rw [if_neg hb']
      simp only [h0, if_true, Sem.run_pure, Sem.run_bind, Result.andThen_ok]
      rw [e2, k1]
      rfl
    · refine main ((Array.range (n * te.sz)).map (z.cells[· % z.cells.size]!)) (by rw [Array.size_map, Array.size_range]) fun out k1 => ?_
      simp only [Instr.buildSlice, Sem.run_bind, run_underlying hu, Result.andThen_ok, run_sizeOf hT he]
      rw [if_neg hb']
      simp only [h0, if_false, Sem.run_pure, Sem.run_bind, Result.andThen_ok, hz]
      rw [e2, k1]
      rfl
  obtain ⟨out, h1, h2, h3⟩ := hrun
  have hx1 : (execOp a.eval o).run P w = .ok (.value (.slice (some ⟨w.heap.size, 0, none⟩) n n)) (w.alloc (.cells out e)) := by
    have e3 : execOp a.eval o = (do pure (.value (← Instr.buildSlice t n (ps.toArray.map fun (i, x) => (i, a.eval x))))) := by simp only [execOp, ho]
    rw [e3, Sem.run_bind, h1]; rfl
  refine ⟨_, _, Φ, bindOwn β d d w.heap.size n, hx1, ?_, Φ.le_refl⟩
  rw [hd]
  have hml : n ≤ maxLen := by unfold maxLen; omega
  have hob : Nat.ble mapTag e = false := (hT e te he).small
  have hall := hs.alloc (d := d) (cap := n) (B := ⟨e, te.sz, rs⟩) (cur := out) hob h2 (Nat.le_of_eq hlen) hml hrs h3
  have := hall.putSlc (d := d) hn (by simp only [St.bind]; rw [lk_cons, if_pos rfl]) (by exact hob) bindOwn_self
  rw [hlen] at this
  exact this
end
section
variable {A B : St}
theorem Le.refl : Le A A := fun G Φ β a w h => ⟨Φ, β, Φ.le_refl, h⟩
/-- The names that a slot's value needs. -/
def NameOK (bl bl' : List (Nat × Blk)) : AV → Prop
  | .addr n _ _ | .slc n | .mp n | .mpn n _ | .pin n _ _ _ => lk bl' n = lk bl n
  | .itr d n => lk bl' d = lk bl d ∧ lk bl' n = lk bl n
  | _ => True
def SubE (A : St) (bl' : List (Nat × Blk)) : List (Nat × (Prop × AV)) → Prop
  | [] => True
  | (t, (q, v)) :: r => (lk A.env t = some (q, v) ∧ NameOK A.blks bl' v) ∧ SubE A bl' r
def SubB (A : St) : List (Nat × Blk) → Prop
  | [] => True
  | (n, B) :: r => lk A.blks n = some B ∧ SubB A r
theorem subE_get {bl' : List (Nat × Blk)} : ∀ {env : List (Nat × (Prop × AV))}, SubE A bl' env → ∀ {t q v}, lk env t = some (q, v) → lk A.env t = some (q, v) ∧ NameOK A.blks bl' v
  | [], _, t, q, v, h => by simp [lk] at h
  | (s, (q0, v0)) :: r, hs, t, q, v, h => by
    rw [lk_cons] at h
    split at h
    · rename_i e; subst e
      simp only [Option.some.injEq, Prod.mk.injEq] at h
      obtain ⟨rfl, rfl⟩ := h
      exact hs.1
    · exact subE_get hs.2 h
theorem subB_get : ∀ {bl : List (Nat × Blk)}, SubB A bl → ∀ {n B}, lk bl n = some B → lk A.blks n = some B
  | [], _, n, B, h => by simp [lk] at h
  | (m, B0) :: r, hs, n, B, h => by
    rw [lk_cons] at h
    split at h
    · rename_i e; subst e
      obtain rfl := Option.some.inj h
      exact hs.1
    · exact subB_get hs.2 h
theorem Le.mk (hn : B.n = A.n) (he : SubE A B.blks B.env) (hb : SubB A B.blks) : Le A B := fun G Φ β a w hs => by
  refine ⟨Φ, β, Φ.le_refl, hs.kept, hs.fits, hs.old, by rw [hn]; exact hs.siz, hs.dfr, fun t q v h => ?_, fun n C b cap h1 h2 => hs.blk n C b cap (subB_get hb h1) h2, fun n C h1 h2 => hs.vir n C (subB_get hb h1) h2, fun n n' C C' b c c' h1 h2 h3 h4 => hs.inj n n' C C' b c c' (subB_get hb h1) (subB_get hb h2) h3 h4⟩
  obtain ⟨h1, h2⟩ := subE_get he h
  refine ⟨fun hq => ?_, (hs.env t q v h1).2⟩
  have h3 := (hs.env t q v h1).1 hq
  cases v with
  | pv p => exact h3
  | tup l => exact h3
  | top => trivial
  | addr n i off =>
    obtain ⟨b, cap, C, g1, g2, g3⟩ := h3
    exact ⟨b, cap, C, g1, by rw [show lk B.blks n = lk A.blks n from h2]; exact g2, g3⟩
  | slc n =>
    obtain ⟨C, g2, g3⟩ := h3
    exact ⟨C, by rw [show lk B.blks n = lk A.blks n from h2]; exact g2, g3⟩
  | mp n =>
    obtain ⟨b, cap, C, g1, g2, g3⟩ := h3
    exact ⟨b, cap, C, g1, by rw [show lk B.blks n = lk A.blks n from h2]; exact g2, g3⟩
  | mpn n bb =>
    obtain ⟨b, cap, C, g1, g2, g3⟩ := h3
    exact ⟨b, cap, C, g1, by rw [show lk B.blks n = lk A.blks n from h2]; exact g2, g3⟩
  | itr d n =>
    obtain ⟨b, cap, C, M, c, g1, g2, g3, g4, g5, g6⟩ := h3
    exact ⟨b, cap, C, M, c, g1, by rw [h2.1]; exact g2, g3, g4, by rw [h2.2]; exact g5, g6⟩
  | pin n b0 c0 f =>
    obtain ⟨C, g1, g2, g3⟩ := h3
    exact ⟨C, g1, by rw [show lk B.blks n = lk A.blks n from h2]; exact g2, g3⟩
/-- Every own block becomes memory that does not turn any more. -/
def frzV (bl : List (Nat × Blk)) : AV → AV
  | .tup l => .tup l
  | v => match toPV bl v with | some p => .pv p | none => .top
def frzE (bl : List (Nat × Blk)) : List (Nat × (Prop × AV)) → List (Nat × (Prop × AV))
  | [] => []
  | (t, (q, v)) :: r => (t, (q, frzV bl v)) :: frzE bl r
theorem lk_frzE (bl : List (Nat × Blk)) : ∀ (env : List (Nat × (Prop × AV))) (t : Nat) (q : Prop) (v : AV), lk (frzE bl env) t = some (q, v) → ∃ v', lk env t = some (q, v') ∧ v = frzV bl v'
  | [], t, q, v, h => by simp [frzE, lk] at h
  | (s, (q0, v0)) :: r, t, q, v, h => by
    rw [frzE, lk_cons] at h
    rw [lk_cons]
    split at h
    · rename_i e
      simp only [Option.some.injEq, Prod.mk.injEq] at h
      rw [if_pos e]
      exact ⟨v0, by rw [h.1], h.2.symm⟩
    · rename_i e
      rw [if_neg e]
      exact lk_frzE bl r t q v h
theorem Le.freeze : Le A { A with env := frzE A.blks A.env, blks := [] } := fun G Φ β a w hs => by
  refine ⟨frzAll Φ β A.blks w, fun _ => none, hs.frz_le, hs.kept, hs.frz_fits, fun b hk => ?_, hs.siz, hs.dfr, fun t q v h => ?_, fun n C b cap h1 => by simp [lk] at h1, fun n C h1 => by simp [lk] at h1, fun n n' C C' b c c' h1 => by simp [lk] at h1⟩
  · have hno : ¬ ownedBy β A.blks b := fun ⟨n, B, cap, h1, h2⟩ => (hs.blk n B b cap h1 h2).2.1 hk
    unfold frzAll
    rw [if_neg hno]
    exact hs.old b hk
  · obtain ⟨v', h1, rfl⟩ := lk_frzE _ _ _ _ _ h
    refine ⟨fun hq => ?_, (hs.env t q v' h1).2⟩
    have h3 := (hs.env t q v' h1).1 hq
    cases v' with
    | tup l => exact h3.mono hs.frz_le
    | pv p => exact PRel.mono hs.frz_le h3
    | top => trivial
    | mp n => trivial
    | mpn n bb => trivial
    | itr d n => trivial
    | pin n b0 c0 f => trivial
    | addr n i off =>
      simp only [frzV]
      cases hq' : toPV A.blks (.addr n i off) with
      | none => trivial
      | some p => exact hs.toPV h3 hq'
    | slc n =>
      simp only [frzV]
      cases hq' : toPV A.blks (.slc n) with
      | none => trivial
      | some p => exact hs.toPV h3 hq'
/-- A nil slice in a slot becomes an own slice without memory, named n. -/
theorem Le.nilOwn {t n E sz : Nat} (ht : lk A.env t = some (True, .pv (.one .slnil))) (hob : Nat.ble mapTag E = false := by rfl) : Le A ((A.bind n n ⟨E, sz, []⟩).set t True (.slc n)) := fun G Φ β a w hs => by
  have hb := hs.bindNil (d := n) (n := n) (E := E) (sz := sz)
  refine ⟨Φ, _, Φ.le_refl, hb.kept, hb.fits, hb.old, hb.siz, hb.dfr, fun s q v h => ?_, hb.blk, hb.vir, hb.inj⟩
  simp only [St.set] at h
  rw [lk_cons] at h
  split at h
  · rename_i e; subst e
    simp only [Option.some.injEq, Prod.mk.injEq] at h
    obtain ⟨rfl, rfl⟩ := h
    refine ⟨fun _ => ⟨⟨E, sz, []⟩, by simp only [St.set, St.bind]; rw [lk_cons, if_pos rfl], hob, .inl ⟨by simp, ?_⟩⟩, fun h => (h trivial).elim⟩
    have h3 : Rel Φ (a.tmps.getD t undef) .slnil := (hs.env t True _ ht).1 trivial
    cases hv : a.tmps.getD t undef <;> rw [hv] at h3 <;> cases h3
    rfl
  · exact hb.env s q v h
end
end Lf
end
section
set_option linter.unusedVariables false
set_option linter.unusedSimpArgs false
set_option linter.unusedSectionVars false
namespace Lf
open Go Go.RowKit
theorem blt_lt {d n : Nat} (h : Nat.blt d n = true) : d < n := by simpa [Nat.blt_eq] using h
section
variable {K : St → Prop} {Q : Exit → St → Prop} {A : St}
theorem Then.n (h : K A) : Then K Q .normal A := h
theorem Then.r (h : Q .ret A) : Then K Q .ret A := h
theorem Then.x {i : Nat} (h : Q (.exit i) A) : Then K Q (.exit i) A := h
theorem InBlock.n {id : Nat} (h : Q .normal A) : InBlock id Q .normal A := h
theorem InBlock.r {id : Nat} (h : Q .ret A) : InBlock id Q .ret A := h
theorem InBlock.hit {id : Nat} (h : Q .normal A) : InBlock id Q (.exit id) A := by simp [InBlock]; exact h
end
section
variable {P : Program} {G : Ghost} {A : St} {n0 : Nat} {env : List (Nat × (Prop × AV))} {bl : List (Nat × Blk)} {T : TT} {o : Oper} {ops : Array Oper} {rest : List Oper} {Q : St → Prop} {p : Prop} {d : Nat}
theorem lk_fgt_some {n t : Nat} {q : Prop} {v : AV} : ∀ {env : List (Nat × (Prop × AV))}, lk env t = some (q, v) → lk (fgt n env) t = some (q, bif v.ment n then .top else v)
  | [], h => by simp [lk] at h
  | (s, (q0, v0)) :: r, h => by
    rw [lk_cons] at h
    rw [fgt, lk_cons]
    split at h
    · rename_i e
      simp only [Option.some.injEq, Prod.mk.injEq] at h
      rw [if_pos e, h.1, h.2]
    · rename_i e
      rw [if_neg e]
      exact lk_fgt_some h
theorem AVRel.congr {Φ : Frz} {β : Own} {bl bl' : List (Nat × Blk)} {v : Value} {x : AV} (hl : ∀ m, lk bl m = lk bl' m) (h : AVRel Φ β bl v x) : AVRel Φ β bl' v x := by
  cases x with
  | pv p => exact h
  | tup l => exact h
  | top => trivial
  | addr n i off => obtain ⟨b, cap, B, h1, h2, h3⟩ := h; exact ⟨b, cap, B, h1, by rw [← hl]; exact h2, h3⟩
  | slc n => obtain ⟨B, h1, h2⟩ := h; exact ⟨B, by rw [← hl]; exact h1, h2⟩
  | mp n => obtain ⟨b, cap, B, h1, h2, h3⟩ := h; exact ⟨b, cap, B, h1, by rw [← hl]; exact h2, h3⟩
  | mpn n bb => obtain ⟨b, cap, B, h1, h2, h3⟩ := h; exact ⟨b, cap, B, h1, by rw [← hl]; exact h2, h3⟩
  | itr d n => obtain ⟨b, cap, B, M, c, h1, h2, h3, h4, h5, h6⟩ := h; exact ⟨b, cap, B, M, c, h1, by rw [← hl]; exact h2, h3, h4, by rw [← hl]; exact h5, h6⟩
  | pin n b0 c0 f => obtain ⟨B, h1, h2, h3⟩ := h; exact ⟨B, h1, by rw [← hl]; exact h2, h3⟩
/-- A block under a name that names nothing yet: no slot speaks of it. -/
theorem EffOp.fresh {B : Blk} {x : AV} (hfr : lk bl d = none) (h : EffOp P G (St.mk n0 env bl) o (((St.mk n0 env bl).bind d d B).set d True x)) : EffOp P G (St.mk n0 env bl) o (St.mk n0 ((d, (True, x)) :: env) ((d, B) :: bl)) := fun Φ β a w hs =>
  Oper.wp_mono' (h Φ β a w hs) (fun a' w' ⟨Φ', β', hs', hle⟩ => by
    have hl : ∀ m, lk ((d, B) :: (d, deadBlk) :: bl) m = lk ((d, B) :: bl) m := fun m => by
      rw [lk_cons, lk_cons, lk_cons]; split <;> rfl
    refine ⟨Φ', β', ⟨hs'.kept, hs'.fits, hs'.old, hs'.siz, hs'.dfr, fun t q v h1 => ?_, fun n C b cap h1 h2 => hs'.blk n C b cap ((hl n).trans h1) h2, fun n C h1 h2 => hs'.vir n C ((hl n).trans h1) h2, fun n n' C C' b c c' h1 h2 h3 h4 => hs'.inj n n' C C' b c c' ((hl n).trans h1) ((hl n').trans h2) h3 h4⟩, hle⟩
    rw [lk_cons] at h1
    by_cases e : d = t
    · rw [if_pos e] at h1
      have := hs'.env t q v (by simp only [St.set, St.bind]; rw [lk_cons, if_pos e]; exact h1)
      exact ⟨fun hq => (this.1 hq).congr hl, this.2⟩
    · rw [if_neg e] at h1
      have hno : q → v.ment d = false := fun hq => by
        have h2 := (hs.env t q v h1).1 hq
        cases v with
        | pv p => rfl
        | tup l => rfl
        | top => rfl
        | addr m i off =>
          obtain ⟨b, cap, C, g1, g2, g3⟩ := h2
          cases hm : (AV.addr m i off).ment d with
          | false => rfl
          | true => have e2 : m = d := Nat.eq_of_beq_eq_true hm; subst e2; rw [hfr] at g2; cases g2
        | pin m b0 c0 f =>
          obtain ⟨C, g1, g2, g3⟩ := h2
          cases hm : (AV.pin m b0 c0 f).ment d with
          | false => rfl
          | true => have e2 : m = d := Nat.eq_of_beq_eq_true hm; subst e2; rw [hfr] at g2; cases g2
        | slc m =>
          obtain ⟨C, g2, g3⟩ := h2
          cases hm : (AV.slc m).ment d with
          | false => rfl
          | true => have e2 : m = d := Nat.eq_of_beq_eq_true hm; subst e2; rw [hfr] at g2; cases g2
        | mp m =>
          obtain ⟨b, cap, C, g1, g2, g3⟩ := h2
          cases hm : (AV.mp m).ment d with
          | false => rfl
          | true => have e2 : m = d := Nat.eq_of_beq_eq_true hm; subst e2; rw [hfr] at g2; cases g2
        | mpn m bb =>
          obtain ⟨b, cap, C, g1, g2, g3⟩ := h2
          cases hm : (AV.mpn m bb).ment d with
          | false => rfl
          | true => have e2 : m = d := Nat.eq_of_beq_eq_true hm; subst e2; rw [hfr] at g2; cases g2
        | itr e m =>
          obtain ⟨b, cap, C, M, c, g1, g2, g3, g4, g5, g6⟩ := h2
          cases hm : (AV.itr e m).ment d with
          | false => rfl
          | true =>
            simp only [AV.ment, Bool.or_eq_true] at hm
            rcases hm with hm | hm
            · have e2 : e = d := Nat.eq_of_beq_eq_true hm; subst e2; rw [hfr] at g2; cases g2
            · have e2 : m = d := Nat.eq_of_beq_eq_true hm; subst e2; rw [hfr] at g5; cases g5
      have h3 := hs'.env t q _ (by simp only [St.set, St.bind]; rw [lk_cons, if_neg e]; exact lk_fgt_some (lk_fgt_some h1))
      refine ⟨fun hq => ?_, h3.2⟩
      have h4 := h3.1 hq
      rw [hno hq] at h4
      simp only [cond_false] at h4
      rw [hno hq] at h4
      exact h4.congr hl) (fun _ _ _ h => h)
/-- an operation that is carried out in any case, and puts a value into a slot -/
theorem U_ {d : Nat} {op : Op} {ty : TypeId} {pos : String} {after : Array Edge} {v : AV} (hp : PureOp P G (St.mk n0 env bl) ⟨some d, op, ty, pos, after, none⟩ True v) (hn : Nat.blt d n0 = true)
    (h : RG P G ops rest Q (St.mk n0 ((d, (True, v)) :: env) bl)) : RG P G ops (⟨some d, op, ty, pos, after, none⟩ :: rest) Q (St.mk n0 env bl) := RG.pure (GOk.none rfl) hp rfl (blt_lt hn) h
/-- an operation under a guard -/
theorem Ug_ {d j t : Nat} {want b : Bool} {op : Op} {ty : TypeId} {pos : String} {after : Array Edge} {v : AV} (hj : (ops[j]?).bind (·.dst) = some t) (ht : lk env t = some (True, .pv (.one (.bool b))))
    (hp : PureOp P G (St.mk n0 env bl) ⟨some d, op, ty, pos, after, some (j, want)⟩ (b = want) v) (hn : Nat.blt d n0 = true)
    (h : RG P G ops rest Q (St.mk n0 ((d, (b = want, v)) :: env) bl)) : RG P G ops (⟨some d, op, ty, pos, after, some (j, want)⟩ :: rest) Q (St.mk n0 env bl) := RG.pure (GOk.ifT rfl hj ht) hp rfl (blt_lt hn) h
theorem Ugq_ {d j t : Nat} {want b : Bool} {q : Prop} {op : Op} {ty : TypeId} {pos : String} {after : Array Edge} {v : AV} (hj : (ops[j]?).bind (·.dst) = some t) (ht : lk env t = some (q, .pv (.one (.bool b))))
    (hp : PureOp P G (St.mk n0 env bl) ⟨some d, op, ty, pos, after, some (j, want)⟩ (q ∧ b = want) v) (hn : Nat.blt d n0 = true)
    (h : RG P G ops rest Q (St.mk n0 ((d, (q ∧ b = want, v)) :: env) bl)) : RG P G ops (⟨some d, op, ty, pos, after, some (j, want)⟩ :: rest) Q (St.mk n0 env bl) := RG.pure (GOk.if rfl hj ht) hp rfl (blt_lt hn) h
variable {dst : Option Nat} {ty : TypeId} {pos : String} {after : Array Edge} {gd : Option (Nat × Bool)}
theorem Q_move {x : Operand} {v : AV} (hx : Ev (St.mk n0 env bl) p x v) : PureOp P G (St.mk n0 env bl) ⟨dst, .move x, ty, pos, after, gd⟩ p v := P_move rfl hx
theorem Q_assign {x : Operand} {v : AV} (hx : Ev (St.mk n0 env bl) p x v) : PureOp P G (St.mk n0 env bl) ⟨dst, .assign x, ty, pos, after, gd⟩ p v := P_assign rfl hx
theorem Q_or {c y : Operand} {b bz : Bool} (hc : Ev (St.mk n0 env bl) p c (.pv (.one (.bool b)))) (hy : Ev (St.mk n0 env bl) (p ∧ b = false) y (.pv (.one (.bool bz)))) :
    PureOp P G (St.mk n0 env bl) ⟨dst, .pick c (.const (.bool true)) y, ty, pos, after, gd⟩ p (.pv (.one (.bool (b || bz)))) := P_or rfl hc hy
theorem Q_and {c x : Operand} {b bx : Bool} (hc : Ev (St.mk n0 env bl) p c (.pv (.one (.bool b)))) (hx : Ev (St.mk n0 env bl) (p ∧ b = true) x (.pv (.one (.bool bx)))) :
    PureOp P G (St.mk n0 env bl) ⟨dst, .pick c x (.const (.bool false)), ty, pos, after, gd⟩ p (.pv (.one (.bool (b && bx)))) := P_and rfl hc hx
theorem i64_id {n : Int} (h : -9223372036854775808 ≤ n ∧ n ≤ 9223372036854775807) : IntKind.i64.wrap n = n := by rw [IntKind.wrap_i64]; omega
theorem Q_add {xt yt : Nat} {x y : Operand} {m n : Int} (hx : Ev (St.mk n0 env bl) p x (.pv (.one (.int .i64 m)))) (hy : Ev (St.mk n0 env bl) p y (.pv (.one (.int .i64 n)))) (hb : -9223372036854775808 ≤ m + n ∧ m + n ≤ 9223372036854775807) :
    PureOp P G (St.mk n0 env bl) ⟨dst, .binOp .add xt x y yt, ty, pos, after, gd⟩ p (.pv (.one (.int .i64 (m + n)))) := P_bin rfl hx hy (by simp only [binI]; rw [i64_id hb])
theorem Q_sub {xt yt : Nat} {x y : Operand} {m n : Int} (hx : Ev (St.mk n0 env bl) p x (.pv (.one (.int .i64 m)))) (hy : Ev (St.mk n0 env bl) p y (.pv (.one (.int .i64 n)))) (hb : -9223372036854775808 ≤ m - n ∧ m - n ≤ 9223372036854775807) :
    PureOp P G (St.mk n0 env bl) ⟨dst, .binOp .sub xt x y yt, ty, pos, after, gd⟩ p (.pv (.one (.int .i64 (m - n)))) := P_bin rfl hx hy (by simp only [binI]; rw [i64_id hb])
theorem Q_remN {xt yt : Nat} {x y : Operand} {k : IntKind} {m n : Int} (hx : Ev (St.mk n0 env bl) p x (.pv (.one (.int k m)))) (hy : Ev (St.mk n0 env bl) p y (.pv (.one (.int k n)))) (hz : 0 ≤ m ∧ 0 < n) :
    PureOp P G (St.mk n0 env bl) ⟨dst, .binOp .rem xt x y yt, ty, pos, after, gd⟩ p (.pv (.one (.int k (m % n)))) := by
  have h := P_rem (P := P) (G := G) (o := ⟨dst, .binOp .rem xt x y yt, ty, pos, after, gd⟩) rfl hx hy (fun _ => by omega)
  rw [Int.tmod_eq_emod_of_nonneg hz.1] at h
  exact h
theorem Q_bin {op : BinOp} {xt yt : Nat} {x y : Operand} {k : IntKind} {m n : Int} {c : Cell} (hx : Ev (St.mk n0 env bl) p x (.pv (.one (.int k m)))) (hy : Ev (St.mk n0 env bl) p y (.pv (.one (.int k n)))) (hr : binI op k m n = some c) :
    PureOp P G (St.mk n0 env bl) ⟨dst, .binOp op xt x y yt, ty, pos, after, gd⟩ p (.pv (.one c)) := P_bin rfl hx hy hr
theorem Q_binS {op : BinOp} {xt yt : Nat} {x y : Operand} {m n : List UInt8} {c : Cell} (hx : Ev (St.mk n0 env bl) p x (.pv (.one (.str m)))) (hy : Ev (St.mk n0 env bl) p y (.pv (.one (.str n)))) (hr : binS op m n = some c) :
    PureOp P G (St.mk n0 env bl) ⟨dst, .binOp op xt x y yt, ty, pos, after, gd⟩ p (.pv (.one c)) := P_binS rfl hx hy hr
theorem Q_not {xt : Nat} {x : Operand} {b : Bool} (hx : Ev (St.mk n0 env bl) p x (.pv (.one (.bool b)))) : PureOp P G (St.mk n0 env bl) ⟨dst, .unOp .not xt x, ty, pos, after, gd⟩ p (.pv (.one (.bool (!b)))) := P_not rfl hx
theorem Q_extract {x : Operand} {i : Nat} {l : List PV} {q : PV} (hx : Ev (St.mk n0 env bl) p x (.tup l)) (hi : l[i]? = some q) : PureOp P G (St.mk n0 env bl) ⟨dst, .extract x i, ty, pos, after, gd⟩ p (.pv q) := P_extract rfl hx hi
theorem Q_call {f : FuncId} {xs : List Operand} {ats : Array TypeId} {ps : List PV} {r : AV} (hc : ACalls P f ps r) (hx : EvL (St.mk n0 env bl) p xs ps) (hr : r.flat = true) :
    PureOp P G (St.mk n0 env bl) ⟨dst, .call ⟨.value (.func f), xs.toArray, ats⟩, ty, pos, after, gd⟩ p r := P_call rfl hx hc.fn (fun _ => hc) hr
theorem Q_calld {f : FuncId} {xs : List Operand} {ats : Array TypeId} {ps : List PV} {r : AV} (hc : ACalls P f ps r) (hx : EvD (St.mk n0 env bl) p xs ps) :
    PureOp P G (St.mk n0 env bl) ⟨dst, .call ⟨.value (.func f), xs.toArray, ats⟩, ty, pos, after, gd⟩ p r := P_calld rfl hx hc.fn (fun _ => hc)
theorem EvL.nil : EvL A p [] [] := trivial
theorem EvL.cons {x : Operand} {xs : List Operand} {q r : PV} {qs : List PV} {av : AV} (h : Ev A p x av) (hq : toPV A.blks av = some r) (hs : PSub r q) (ht : EvL A p xs qs) : EvL A p (x :: xs) (q :: qs) := ⟨⟨av, r, h, hq, hs⟩, ht⟩
theorem EvD.nil : EvD A p [] [] := trivial
theorem EvD.cons {x : Operand} {xs : List Operand} {q r : PV} {qs : List PV} (h : Ev A p x (.pv r)) (hs : PSub r q) (ht : EvD A p xs qs) : EvD A p (x :: xs) (q :: qs) := ⟨⟨r, h, hs⟩, ht⟩
theorem PSub.rfl' {q : PV} : PSub q q := PSub.refl q
theorem PSub.nil' : PSub (.one .slnil) (.one (.sl [])) := CSub.nil
theorem EvP.nil : EvP A p [] [] := trivial
theorem EvP.cons {i : Nat} {x : Operand} {xs : List (Nat × Operand)} {q : PV} {qs : List (Nat × PV)} (h : Ev A p x (.pv q)) (ht : EvP A p xs qs) : EvP A p ((i, x) :: xs) ((i, q) :: qs) := ⟨⟨rfl, _, h, rfl, rfl⟩, ht⟩
theorem EvR.nil {k : Nat} : EvR A [] k [] := trivial
theorem EvR.cons {k : Nat} {x : Operand} {xs : List (Nat × Operand)} {q : PV} {rs : List (List Cell)} (h : Ev A True x (.pv q)) (ht : EvR A xs (k + 1) rs) : EvR A ((k, x) :: xs) k (q.cells :: rs) := ⟨⟨rfl, _, h, rfl⟩, ht⟩
variable (hT : TOK P T)
include hT
theorem Q_convI {src t : Nat} {x : Operand} {ks : IntKind} {n : Int} {ti tj : TI} (hs0 : T src = some ti) (hk : ti.kind = .int ks) (hd0 : T t = some tj) (hk' : tj.kind = .int .i64) (hx : Ev (St.mk n0 env bl) p x (.pv (.one (.int ks n)))) (hb : -9223372036854775808 ≤ n ∧ n ≤ 9223372036854775807) :
    PureOp P G (St.mk n0 env bl) ⟨dst, .convert src t x, ty, pos, after, gd⟩ p (.pv (.one (.int .i64 n))) := by
  have h := P_conv_int (P := P) (G := G) hT (o := ⟨dst, .convert src t x, ty, pos, after, gd⟩) rfl hs0 hk hd0 hk' hx
  rw [i64_id hb] at h
  exact h
theorem Q_load {t n i off : Nat} {x : Operand} {ti : TI} {B : Blk} {r : List Cell} {c : Cell} (ht : T t = some ti) (hb : ti.kind.isAgg = some false) (hx : Ev (St.mk n0 env bl) p x (.addr n i off))
    (hl : lk bl n = some B) (hr : B.rows[i]? = some r) (hc : r[off]? = some c) : PureOp P G (St.mk n0 env bl) ⟨dst, .load t x, ty, pos, after, gd⟩ p (.pv (.one c)) := P_load_own hT rfl ht hb hx hl (fun _ => hr) (fun _ => hc)
theorem Q_loada {t n i off : Nat} {x : Operand} {ti : TI} {B : Blk} {r : List Cell} (ht : T t = some ti) (hb : ti.kind.isAgg = some true) (hx : Ev (St.mk n0 env bl) p x (.addr n i off))
    (hl : lk bl n = some B) (hr : B.rows[i]? = some r) (hc : Nat.ble (off + ti.sz) r.length = true) : PureOp P G (St.mk n0 env bl) ⟨dst, .load t x, ty, pos, after, gd⟩ p (.pv (.agg ((r.drop off).take ti.sz))) :=
  P_load_own_agg hT rfl ht hb hx hl (fun _ => hr) (fun _ => Nat.le_of_ble_eq_true hc)
theorem Q_loadp {t : Nat} {x : Operand} {ti : TI} {cs : List Cell} {c : Cell} (ht : T t = some ti) (hb : ti.kind.isAgg = some false) (hx : Ev (St.mk n0 env bl) p x (.pv (.one (.ptr cs)))) (hc : cs[0]? = some c) :
    PureOp P G (St.mk n0 env bl) ⟨dst, .load t x, ty, pos, after, gd⟩ p (.pv (.one c)) := P_load_ptr hT rfl ht hb hx (fun _ => hc)
theorem Q_loadpa {t : Nat} {x : Operand} {ti : TI} {cs : List Cell} (ht : T t = some ti) (hb : ti.kind.isAgg = some true) (hx : Ev (St.mk n0 env bl) p x (.pv (.one (.ptr cs)))) (hc : Nat.ble ti.sz cs.length = true) :
    PureOp P G (St.mk n0 env bl) ⟨dst, .load t x, ty, pos, after, gd⟩ p (.pv (.agg (cs.take ti.sz))) := P_load_ptr_agg hT rfl ht hb hx (fun _ => Nat.le_of_ble_eq_true hc)
theorem Q_field {s f n i off fo ft : Nat} {x : Operand} {ti tj : TI} {fs : List (Nat × Nat)} (hx : Ev (St.mk n0 env bl) p x (.addr n i off)) (ht : T s = some ti) (hk : ti.kind = .struct fs) (hf : fs[f]? = some (fo, ft)) (hj : T ft = some tj) (hz : Nat.blt 0 tj.sz = true) :
    PureOp P G (St.mk n0 env bl) ⟨dst, .fieldAddr s x f, ty, pos, after, gd⟩ p (.addr n i (off + fo)) := P_field_own hT rfl ht hk hf hj (Nat.ne_of_gt (blt_lt hz)) hx
theorem Q_fieldp {s f fo ft : Nat} {x : Operand} {ti tj : TI} {fs : List (Nat × Nat)} {cs : List Cell} (hx : Ev (St.mk n0 env bl) p x (.pv (.one (.ptr cs)))) (ht : T s = some ti) (hk : ti.kind = .struct fs) (hf : fs[f]? = some (fo, ft)) (hj : T ft = some tj) (hz : Nat.blt 0 tj.sz = true) :
    PureOp P G (St.mk n0 env bl) ⟨dst, .fieldAddr s x f, ty, pos, after, gd⟩ p (.pv (.one (.ptr (cs.drop fo)))) := P_field_ptr hT rfl ht hk hf hj (Nat.ne_of_gt (blt_lt hz)) hx
theorem Q_indexd {t e : Nat} {x y : Operand} {ti te : TI} {rows : List (List Cell)} {r : List Cell} {k : IntKind} {i : Int} (hx : Ev (St.mk n0 env bl) p x (.pv (.one (.sl rows)))) (hy : Ev (St.mk n0 env bl) p y (.pv (.one (.int k i)))) (ht : T t = some ti) (hk : ti.kind = .slice e) (he : T e = some te)
    (hr : p → 0 ≤ i ∧ rows[i.toNat]? = some r) (hz : r.length = te.sz) : PureOp P G (St.mk n0 env bl) ⟨dst, .indexAddr t x y, ty, pos, after, gd⟩ p (.pv (.one (.ptr r))) := P_index_sl hT rfl ht hk he hx hy hr (fun _ => hz)
theorem Q_indexs {t : Nat} {x y : Operand} {ti : TI} {l : List UInt8} {k : IntKind} {i : Int} {c : UInt8} (hx : Ev (St.mk n0 env bl) p x (.pv (.one (.str l)))) (hy : Ev (St.mk n0 env bl) p y (.pv (.one (.int k i)))) (ht : T t = some ti) (hk : ti.kind = .string)
    (hr : p → 0 ≤ i ∧ l[i.toNat]? = some c) : PureOp P G (St.mk n0 env bl) ⟨dst, .index t x y, ty, pos, after, gd⟩ p (.pv (.one (.int .u8 c.toNat))) := P_index_str hT rfl ht hk hx hy hr
theorem Q_lend {t e : Nat} {x : Operand} {ti : TI} {rows : List (List Cell)} (hx : Ev (St.mk n0 env bl) p x (.pv (.one (.sl rows)))) (ht : T t = some ti) (hk : ti.kind = .slice e) :
    PureOp P G (St.mk n0 env bl) ⟨dst, .call ⟨.builtin .len, #[x], #[t]⟩, ty, pos, after, gd⟩ p (.pv (.one (.int .i64 rows.length))) := P_len_sl hT rfl ht hk hx
theorem Q_lens {t : Nat} {x : Operand} {ti : TI} {l : List UInt8} (hx : Ev (St.mk n0 env bl) p x (.pv (.one (.str l)))) (ht : T t = some ti) (hk : ti.kind = .string) :
    PureOp P G (St.mk n0 env bl) ⟨dst, .call ⟨.builtin .len, #[x], #[t]⟩, ty, pos, after, gd⟩ p (.pv (.one (.int .i64 l.length))) := P_len_str hT rfl ht hk hx
theorem Q_build {t : Nat} {ps : List (Nat × Operand)} {qs : List (Nat × PV)} {ti : TI} {fs : List (Nat × Nat)} {res : List Cell} (hx : EvP (St.mk n0 env bl) p ps qs) (ht : T t = some ti) (hk : ti.kind = .struct fs) (hfs : fs.all (fun f => (T f.2).isSome) = true)
    (hf : fillC (placeS T fs) ti.zero.cells qs = some res) : PureOp P G (St.mk n0 env bl) ⟨dst, .build t ps.toArray, ty, pos, after, gd⟩ p (.pv (.agg res)) := P_build hT rfl ht hk (fun f hf => List.all_eq_true.1 hfs f hf) hx hf
theorem S_alloc {t d : Nat} {ti : TI} (ht : T t = some ti) (hz : ti.zero.cells.length = ti.sz) (hfr : lk bl d = none) (hn : Nat.blt d n0 = true)
    (h : RG P G ops rest Q (St.mk n0 ((d, (True, .addr d 0 0)) :: env) ((d, ⟨t, ti.sz, [ti.zero.cells]⟩) :: bl))) : RG P G ops (⟨some d, .alloc t, ty, pos, after, none⟩ :: rest) Q (St.mk n0 env bl) :=
  RG.eff rfl (EffOp.fresh hfr (E_alloc hT rfl rfl (blt_lt hn) ht hz)) h
omit hT in
theorem S_box {t d : Nat} {x : Operand} {q : PV} (hx : Ev (St.mk n0 env bl) True x (.pv q)) (hsm : Nat.ble mapTag t = false) (hfr : lk bl d = none) (hn : Nat.blt d n0 = true)
    (h : RG P G ops rest Q (St.mk n0 ((d, (True, .addr d 0 0)) :: env) ((d, ⟨t, q.cells.length, [q.cells]⟩) :: bl))) : RG P G ops (⟨some d, .box t x, ty, pos, after, none⟩ :: rest) Q (St.mk n0 env bl) :=
  RG.eff rfl (EffOp.fresh hfr (E_box hsm rfl rfl (blt_lt hn) hx)) h
theorem S_store {t n i off : Nat} {x y : Operand} {ti : TI} {B : Blk} {r : List Cell} {q : PV} (hx : Ev (St.mk n0 env bl) True x (.addr n i off)) (hy : Ev (St.mk n0 env bl) True y (.pv q)) (ht : T t = some ti) (hl : lk bl n = some B) (hr : B.rows[i]? = some r)
    (hq : q.cells.length = ti.sz) (hfit : Nat.ble (off + ti.sz) r.length = true) (h : RG P G ops rest Q (St.mk n0 env ((n, { B with rows := B.rows.set i (splice r off q.cells) }) :: bl))) :
    RG P G ops (⟨none, .store t x y, ty, pos, after, none⟩ :: rest) Q (St.mk n0 env bl) :=
  RG.eff rfl (E_store hT rfl rfl ht hx hy hl hr hq (Nat.le_of_ble_eq_true hfit)) h
theorem S_lit {t e n d : Nat} {ps : List (Nat × Operand)} {rs : List (List Cell)} {ti te : TI} (hx : EvR (St.mk n0 env bl) ps 0 rs) (ht : T t = some ti) (hk : ti.kind = .slice e) (he : T e = some te) (hlen : rs.length = n) (hrs : rs.all (fun r => Nat.beq r.length te.sz) = true)
    (hb : Nat.ble (n * te.sz) 16777216 = true) (hn' : Nat.ble n 16777216 = true) (hfr : lk bl d = none) (hn : Nat.blt d n0 = true) (h : RG P G ops rest Q (St.mk n0 ((d, (True, .slc d)) :: env) ((d, ⟨e, te.sz, rs⟩) :: bl))) :
    RG P G ops (⟨some d, .buildSlice t n ps.toArray, ty, pos, after, none⟩ :: rest) Q (St.mk n0 env bl) :=
  RG.eff rfl (EffOp.fresh hfr (E_lit hT rfl rfl (blt_lt hn) ht hk he hx hlen (fun r hr => Nat.eq_of_beq_eq_true (List.all_eq_true.1 hrs r hr)) (Nat.le_of_ble_eq_true hb) (Nat.le_of_ble_eq_true hn'))) h
theorem S_append {t e n m d : Nat} {x y : Operand} {ti te : TI} {B C : Blk} (hx : Ev (St.mk n0 env bl) True x (.slc n)) (hy : Ev (St.mk n0 env bl) True y (.slc m)) (ht : T t = some ti) (hk : ti.kind = .slice e) (he : T e = some te) (hl : lk bl n = some B) (hm : lk bl m = some C)
    (hzl : te.zero.cells.length = te.sz) (hz : Nat.blt 0 te.sz = true) (hE : B.E = e) (hsz : B.sz = te.sz) (hCsz : C.sz = te.sz)
    (hb : (B.rows.length + C.rows.length) * te.bytes ≤ 140737488355328 ∧ B.rows.length + C.rows.length ≤ 140737488355328) (hn : Nat.blt d n0 = true)
    (h : RG P G ops rest Q (St.mk n0 ((d, (True, .slc d)) :: fgt d (fgt n env)) ((d, ⟨e, te.sz, B.rows ++ C.rows⟩) :: (n, deadBlk) :: bl))) : RG P G ops (⟨some d, .call ⟨.builtin .append, #[x, y], #[t, t]⟩, ty, pos, after, none⟩ :: rest) Q (St.mk n0 env bl) :=
  RG.eff rfl (E_append hT rfl rfl (blt_lt hn) ht hk he hzl (blt_lt hz) hx hl hE hsz hy hm hCsz (by by_cases h : d = n; exact .inl h; exact .inr (.inr h)) hb.1 hb.2) h
theorem S_appendd {t e n d : Nat} {x y : Operand} {ti te : TI} {B : Blk} {rows2 : List (List Cell)} (hx : Ev (St.mk n0 env bl) True x (.slc n)) (hy : Ev (St.mk n0 env bl) True y (.pv (.one (.sl rows2)))) (ht : T t = some ti) (hk : ti.kind = .slice e) (he : T e = some te) (hl : lk bl n = some B)
    (hzl : te.zero.cells.length = te.sz) (hz : Nat.blt 0 te.sz = true) (hE : B.E = e) (hsz : B.sz = te.sz) (hrows : ∀ r ∈ rows2, r.length = te.sz)
    (hb : (B.rows.length + rows2.length) * te.bytes ≤ 140737488355328 ∧ B.rows.length + rows2.length ≤ 140737488355328) (hn : Nat.blt d n0 = true)
    (h : RG P G ops rest Q (St.mk n0 ((d, (True, .slc d)) :: fgt d (fgt n env)) ((d, ⟨e, te.sz, B.rows ++ rows2⟩) :: (n, deadBlk) :: bl))) : RG P G ops (⟨some d, .call ⟨.builtin .append, #[x, y], #[t, t]⟩, ty, pos, after, none⟩ :: rest) Q (St.mk n0 env bl) :=
  RG.eff rfl (E_append_data hT rfl rfl (blt_lt hn) ht hk he hzl (blt_lt hz) hx hl hE hsz hy hrows hb.1 hb.2) h
end
theorem TK.ok_struct {P : Program} {t : Nat} {fs : List (Nat × Nat)} (h : ((P.underlying t).bind fun d => match d with | .struct f => some (f.toList.map fun f => (f.offset, f.type)) | _ => none) = some fs) : (TK.struct fs).ok P t := by
  cases hu : P.underlying t with
  | none => rw [hu] at h; cases h
  | some d =>
    rw [hu] at h
    cases d <;> simp at h
    rename_i f
    exact ⟨f, hu, h⟩
theorem TK.ok_func {P : Program} {t : Nat} (h : ((P.underlying t).bind fun d => match d with | .func a b c => some () | _ => none) = some ()) : TK.func.ok P t := by
  cases hu : P.underlying t with
  | none => rw [hu] at h; cases h
  | some d =>
    rw [hu] at h
    cases d <;> simp at h
    exact ⟨_, _, _, hu⟩
theorem TK.ok_iface {P : Program} {t : Nat} (h : ((P.underlying t).bind fun d => match d with | .interface a => some () | _ => none) = some ()) : TK.iface.ok P t := by
  cases hu : P.underlying t with
  | none => rw [hu] at h; cases h
  | some d =>
    rw [hu] at h
    cases d <;> simp at h
    exact ⟨_, hu⟩
theorem TI.ok_mk {P : Program} {t : Nat} {k : TK} {sz bytes : Nat} {zero : PV} {z : Value} (hk : k.ok P t) (h : (P.info? t).map (fun i => (i.size, i.bytes, i.zero)) = some (sz, bytes, some z)) (hz : ∀ Φ, PRel Φ z zero) (hsm : Nat.ble mapTag t = false := by rfl) : TI.ok P t ⟨k, sz, bytes, zero⟩ := by
  refine ⟨hsm, hk, ?_⟩
  cases hi : P.info? t with
  | none => rw [hi] at h; cases h
  | some i =>
    rw [hi] at h
    simp only [Option.map_some, Option.some.injEq, Prod.mk.injEq] at h
    exact ⟨i, rfl, h.1, h.2.1, z, h.2.2, hz⟩
def AllOK (P : Program) : List (Nat × TI) → Prop
  | [] => True
  | (t, ti) :: r => ti.ok P t ∧ AllOK P r
theorem AllOK.nil {P : Program} : AllOK P [] := trivial
theorem AllOK.cons {P : Program} {t : Nat} {ti : TI} {r : List (Nat × TI)} (h : ti.ok P t) (h' : AllOK P r) : AllOK P ((t, ti) :: r) := ⟨h, h'⟩
theorem TOK.of_list {P : Program} : ∀ {l : List (Nat × TI)}, AllOK P l → TOK P (lk l)
  | [], _, t, ti, h => by simp [lk] at h
  | (s, ts) :: r, hs, t, ti, h => by
    rw [lk_cons] at h
    split at h
    · rename_i e; subst e
      obtain rfl := Option.some.inj h
      exact hs.1
    · exact TOK.of_list hs.2 t ti h
theorem getRow {α : Type} [Inhabited α] {l : List α} {f : α → List Cell} {i : Int} (h : 0 ≤ i ∧ i < l.length) : 0 ≤ i ∧ (l.map f)[i.toNat]? = some (f (l.getD i.toNat default)) := by
  refine ⟨h.1, ?_⟩
  have hlt : i.toNat < l.length := by omega
  simp [List.getElem?_eq_getElem hlt, List.getD]
def Pick (A : St) : List Nat → List (Nat × (Prop × AV)) → Prop
  | [], [] => True
  | t :: ts, (s, e) :: r => (t = s ∧ lk A.env t = some e) ∧ Pick A ts r
  | _, _ => False
theorem Pick.nil {A : St} : Pick A [] [] := trivial
theorem Pick.cons {A : St} {t : Nat} {e : Prop × AV} {ts : List Nat} {r : List (Nat × (Prop × AV))} (h : lk A.env t = some e) (h' : Pick A ts r) : Pick A (t :: ts) ((t, e) :: r) := ⟨⟨rfl, h⟩, h'⟩
def mkSt (n : Nat) (f E : List (Nat × (Prop × AV))) (bl : List (Nat × Blk)) : St := ⟨n, f ++ E, bl⟩
/-- A LOOP, by what it turns (f), what it keeps (E), its own blocks (bl), an invariant and a measure. -/
theorem W.loopP {P : Program} {G : Ghost} {A : St} {Q : Exit → St → Prop} {c : Code} {σ : Type _} (n : Nat) (keep : List Nat) (inv : σ → Prop) (f : σ → List (Nat × (Prop × AV))) (bl : σ → List (Nat × Blk)) (μ : σ → Nat) (s0 : σ) {E : List (Nat × (Prop × AV))} (hp : Pick A keep E)
    (h0 : inv s0 ∧ Le A (mkSt n (f s0) E (bl s0))) (round : ∀ s, inv s → W P G c (Then (fun A' => ∃ s', inv s' ∧ Le A' (mkSt n (f s') E (bl s')) ∧ μ s' < μ s) Q) (mkSt n (f s) E (bl s))) : W P G (.loop c) Q A := by
  refine W.loop (σ := { s : σ // inv s }) (fun s => mkSt n (f s.1) E (bl s.1)) (fun s => μ s.1) ⟨s0, h0.1⟩ h0.2 fun s => ?_
  refine W.mono (round s.1 s.2) fun e A' h => ?_
  cases e with
  | normal => obtain ⟨s', h1, h2, h3⟩ := h; exact ⟨⟨s', h1⟩, h2, h3⟩
  | exit id => exact h
  | goto id => exact h
  | ret => exact h
  | panic c => exact h
  | outgrown => exact h
abbrev vI (n : Int) : Prop × AV := (True, .pv (.one (.int .i64 n)))
abbrev vS (n : Nat) : Prop × AV := (True, .slc n)
abbrev cI (n : Int) : PV := .one (.int .i64 n)
abbrev cB (b : Bool) : PV := .one (.bool b)
def App : List (Nat × (Prop × AV)) → List (Nat × (Prop × AV)) → List (Nat × (Prop × AV)) → Prop := fun f E env => env = f ++ E
theorem App.nil {E : List (Nat × (Prop × AV))} : App [] E E := rfl
theorem App.cons {e : Nat × (Prop × AV)} {f E env : List (Nat × (Prop × AV))} (h : App f E env) : App (e :: f) E (e :: env) := by unfold App at *; rw [h]; rfl
theorem W.norm {P : Program} {G : Ghost} {Q : Exit → St → Prop} {c : Code} {n : Nat} {f E env : List (Nat × (Prop × AV))} {bl : List (Nat × Blk)} (h : App f E env) (hw : W P G c Q (St.mk n env bl)) : W P G c Q (mkSt n f E bl) := by
  unfold App at h; subst h; exact hw
/-- An element of a list. -/
def nth {α : Type} [Inhabited α] (l : List α) (k : Nat) : α := l.getD k default
theorem getRowN {α : Type} [Inhabited α] {l : List α} {f : α → List Cell} {k : Nat} (h : k < l.length) : 0 ≤ (k : Int) ∧ (l.map f)[(k : Int).toNat]? = some (f (nth l k)) := by
  refine ⟨Int.natCast_nonneg k, ?_⟩
  simp [List.getElem?_eq_getElem h, nth, List.getD]
theorem getRowI {α : Type} [Inhabited α] {l : List α} {f : α → List Cell} {i : Int} (h : 0 ≤ i ∧ i < l.length) : 0 ≤ i ∧ (l.map f)[i.toNat]? = some (f (nth l i.toNat)) := getRow h
theorem drop_nth {α : Type} [Inhabited α] {l : List α} {k : Nat} (h : k < l.length) : l.drop k = nth l k :: l.drop (k + 1) := by
  rw [List.drop_eq_getElem_cons h]; simp [nth, List.getD, List.getElem?_eq_getElem h]
def InitE (args : List PV) (k : Nat) (env : List (Nat × (Prop × AV))) : Prop := env = initEnv args k
theorem InitE.nil {k : Nat} : InitE [] k [] := rfl
theorem InitE.cons {q : PV} {qs : List PV} {k : Nat} {env : List (Nat × (Prop × AV))} (h : InitE qs (k + 1) env) : InitE (q :: qs) k ((k, (True, .pv q)) :: env) := by unfold InitE at *; rw [h]; rfl
theorem W.init {P : Program} {G : Ghost} {Q : Exit → St → Prop} {c : Code} {n : Nat} {args : List PV} {env : List (Nat × (Prop × AV))} (h : InitE args 0 env) (hw : W P G c Q (St.mk n env [])) : W P G c Q (St.init n args) := by
  unfold InitE at h; subst h; exact hw
theorem InitE.c0 {q : PV} {qs : List PV} {env : List (Nat × (Prop × AV))} (h : InitE qs 1 env) : InitE (q :: qs) 0 ((0, (True, .pv q)) :: env) := InitE.cons h
theorem InitE.c1 {q : PV} {qs : List PV} {env : List (Nat × (Prop × AV))} (h : InitE qs 2 env) : InitE (q :: qs) 1 ((1, (True, .pv q)) :: env) := InitE.cons h
theorem InitE.c2 {q : PV} {qs : List PV} {env : List (Nat × (Prop × AV))} (h : InitE qs 3 env) : InitE (q :: qs) 2 ((2, (True, .pv q)) :: env) := InitE.cons h
theorem ResL.nil {A : St} : ResL A [] [] := trivial
theorem ResL.cons {A : St} {t : Nat} {ts : List Nat} {q r : PV} {qs : List PV} {av : AV} (h : lk A.env t = some (True, av)) (hv : toPV A.blks av = some r) (hs : PSub r q) (ht : ResL A ts qs) : ResL A (t :: ts) (q :: qs) := ⟨⟨av, r, h, hv, hs⟩, ht⟩
end Lf
end
section
set_option linter.unusedVariables false
set_option linter.unusedSimpArgs false
namespace Lf
open Go Go.RowKit
abbrev Env := List (Nat × (Prop × AV))
def only (ts : List Nat) : Env → Env
  | [] => []
  | (k, e) :: r => bif ts.any (Nat.beq k) then (k, e) :: only ts r else only ts r
theorem lk_only {ts : List Nat} : ∀ {env : Env} {t : Nat} {e : Prop × AV}, lk (only ts env) t = some e → t ∈ ts ∧ lk env t = some e
  | [], t, e, h => by simp [only, lk] at h
  | (k, x) :: r, t, e, h => by
    rw [only] at h
    cases hb : ts.any (Nat.beq k) with
    | true =>
      rw [hb, cond_true, lk_cons] at h
      split at h
      · rename_i hk; subst hk
        simp only [List.any_eq_true] at hb
        obtain ⟨y, hy, he⟩ := hb
        have := Nat.eq_of_beq_eq_true he
        subst this
        exact ⟨hy, by rw [lk_cons, if_pos rfl]; exact h⟩
      · rename_i hk
        obtain ⟨h1, h2⟩ := lk_only h
        exact ⟨h1, by rw [lk_cons, if_neg hk]; exact h2⟩
    | false =>
      rw [hb, cond_false] at h
      obtain ⟨h1, h2⟩ := lk_only h
      refine ⟨h1, ?_⟩
      have hk : k ≠ t := fun e => by
        subst e
        have : ts.any (Nat.beq k) = true := List.any_eq_true.2 ⟨k, h1, Nat.beq_refl k⟩
        rw [this] at hb; cases hb
      rw [lk_cons, if_neg hk]; exact h2
/-- The values that have come up, pushed in the text's order. -/
def eL (L : Nat → Bool) : Nat → Env → Env → Env
  | _, [], env => env
  | k, x :: r, env => eL L (k + 1) r (if L k then x :: env else env)
theorem eL_congr {L L' : Nat → Bool} {t : Nat} : ∀ (vals : Env) (k : Nat) (env env' : Env), lk env t = lk env' t → (∀ j x, vals[j]? = some x → x.1 = t → L (k + j) = L' (k + j)) → lk (eL L k vals env) t = lk (eL L' k vals env') t
  | [], k, env, env', h, _ => h
  | x :: r, k, env, env', h, hj => by
    rw [eL, eL]
    refine eL_congr r (k + 1) _ _ ?_ fun j y hy he => by have := hj (j + 1) y (by simpa using hy) he; rwa [show k + (j + 1) = k + 1 + j by omega] at this
    obtain ⟨t', e⟩ := x
    by_cases hx : t' = t
    · have := hj 0 (t', e) rfl hx
      simp only [Nat.add_zero] at this
      rw [this]
      split
      · rw [lk_cons, lk_cons, if_pos hx, if_pos hx]
      · exact h
    · split <;> split <;> simp [lk_cons, hx, h]
theorem eL_none : ∀ (vals : Env) (k : Nat) (env : Env), eL (fun _ => false) k vals env = env
  | [], _, _ => rfl
  | x :: r, k, env => by rw [eL]; exact eL_none r (k + 1) env
theorem eL_lt : ∀ (vals : Env) (k i : Nat) (env : Env) (x : Nat × (Prop × AV)), vals[i]? = some x → eL (fun j => decide (j < k + i + 1)) k vals env = x :: eL (fun j => decide (j < k + i)) k vals env
  | [], k, i, env, x, h => by simp at h
  | y :: r, k, 0, env, x, h => by
    simp at h; subst h
    have key : ∀ (r : Env) (k' : Nat) (env : Env), k < k' → eL (fun j => decide (j < k + 0 + 1)) k' r env = env := by
      intro r
      induction r with
      | nil => intro k' env _; rfl
      | cons z r ih => intro k' env hk; rw [eL, if_neg (by simp; omega)]; exact ih _ _ (by omega)
    have key' : ∀ (r : Env) (k' : Nat) (env : Env), k < k' → eL (fun j => decide (j < k + 0)) k' r env = env := by
      intro r
      induction r with
      | nil => intro k' env _; rfl
      | cons z r ih => intro k' env hk; rw [eL, if_neg (by simp; omega)]; exact ih _ _ (by omega)
    rw [eL, eL, key r (k + 1) _ (by omega), key' r (k + 1) _ (by omega), if_pos (by simp), if_neg (by simp)]
  | y :: r, k, i + 1, env, x, h => by
    rw [eL, eL, if_pos (by simp; omega), if_pos (by simp)]
    have := eL_lt r (k + 1) i (y :: env) x (by simpa using h)
    rw [show k + 1 + i + 1 = k + (i + 1) + 1 by omega, show k + 1 + i = k + (i + 1) by omega] at this
    exact this
def deps (o : Oper) : List Nat := o.after.toList.filterMap fun e => if Region.binds .any e then some e.on else none
def looks (ops : Array Oper) (o : Oper) : List Nat := o.looksAt ops
def clash (ops : Array Oper) (x y : Oper) : Bool :=
  (match x.dst with | some d => (looks ops y).any (Nat.beq d) | none => false) || (match y.dst with | some d => (looks ops x).any (Nat.beq d) || (match x.dst with | some d' => Nat.beq d d' | none => false) | none => false)
/-- no operation writes slot t -/
def unwr (l : List Oper) (t : Nat) : Bool := l.all fun x => match x.dst with | some d => !Nat.beq d t | none => true
theorem unwr_at {l : List Oper} {t : Nat} (h : unwr l t = true) {j : Nat} {o : Oper} (hj : l[j]? = some o) : o.dst ≠ some t := fun e => by
  have := List.all_eq_true.1 h o (List.mem_of_getElem? hj)
  rw [e] at this
  simp at this
def orderOk (l : List Oper) (ms : List Nat) (tss : List (List Nat)) (m : Nat) : Bool :=
  (List.range l.length).all fun y =>
    let o := l.getD y default
    let my := ms.getD y 0
    (deps o).all (fun j => Nat.blt j y) &&
    Nat.beq my ((deps o).foldl (fun s j => s ||| 2 ^ j ||| ms.getD j 0) 0) &&
    (bif Nat.blt y m then
      o.dst.isSome && (tss.getD y []).all (fun t => (looks l.toArray o).any (Nat.beq t) || unwr l t) && (List.range y).all (fun x => !clash l.toArray (l.getD x default) o || my.testBit x)
     else (List.range y).all fun x => my.testBit x)
def clash2 (a b : Nat × Nat) : Bool := b.2.testBit a.1 || a.2.testBit b.1 || Nat.beq a.1 b.1
def sigOk (ops : Array Oper) (o : Oper) (s : Nat × Nat) : Bool := (match o.dst with | some d => Nat.beq d s.1 | none => false) && (looks ops o).all fun t => s.2.testBit t
def pairsOk (s : Nat × Nat) (my : Nat) : Nat → List (Nat × Nat) → Bool
  | _, [] => true
  | x, a :: r => (!clash2 a s || my.testBit x) && pairsOk s my (x + 1) r
def orderOk2 (l : List Oper) (ms : List Nat) (tss : List (List Nat)) (m : Nat) (sg : List (Nat × Nat)) : Bool :=
  (List.range l.length).all fun y =>
    let o := l.getD y default
    let my := ms.getD y 0
    (deps o).all (fun j => Nat.blt j y) &&
    Nat.beq my ((deps o).foldl (fun s j => s ||| 2 ^ j ||| ms.getD j 0) 0) &&
    (bif Nat.blt y m then
      sigOk l.toArray o (sg.getD y (0, 0)) && (tss.getD y []).all (fun t => (looks l.toArray o).any (Nat.beq t) || unwr l t) && pairsOk (sg.getD y (0, 0)) my 0 (sg.take y)
     else (List.range y).all fun x => my.testBit x)
theorem pairsOk_at {s : Nat × Nat} {my : Nat} : ∀ {l : List (Nat × Nat)} {k x : Nat} {a : Nat × Nat}, pairsOk s my k l = true → l[x]? = some a → clash2 a s = true → my.testBit (k + x) = true
  | [], k, x, a, _, hx, _ => by simp at hx
  | b :: r, k, 0, a, h, hx, hc => by
    simp at hx; subst hx
    rw [pairsOk, hc] at h
    simp at h
    simpa using h.1
  | b :: r, k, x + 1, a, h, hx, hc => by
    rw [pairsOk, Bool.and_eq_true] at h
    have := pairsOk_at h.2 (by simpa using hx) hc
    rwa [show k + 1 + x = k + (x + 1) by omega] at this
theorem clash_of {ops : Array Oper} {x y : Oper} {a b : Nat × Nat} (hx : sigOk ops x a = true) (hy : sigOk ops y b = true) (hc : clash ops x y = true) : clash2 a b = true := by
  unfold sigOk at hx hy
  rw [Bool.and_eq_true] at hx hy
  obtain ⟨hx1, hx2⟩ := hx
  obtain ⟨hy1, hy2⟩ := hy
  cases hdx : x.dst with
  | none => rw [hdx] at hx1; cases hx1
  | some d =>
    cases hdy : y.dst with
    | none => rw [hdy] at hy1; cases hy1
    | some e =>
      rw [hdx] at hx1
      rw [hdy] at hy1
      have ea := Nat.eq_of_beq_eq_true hx1
      have eb := Nat.eq_of_beq_eq_true hy1
      unfold clash at hc
      rw [hdx, hdy] at hc
      simp only [Bool.or_eq_true] at hc
      unfold clash2
      simp only [Bool.or_eq_true]
      rcases hc with h | h | h
      · obtain ⟨t, ht, he⟩ := List.any_eq_true.1 h
        have := Nat.eq_of_beq_eq_true he
        exact .inl (.inl (by rw [← ea, this]; exact List.all_eq_true.1 hy2 t ht))
      · obtain ⟨t, ht, he⟩ := List.any_eq_true.1 h
        have := Nat.eq_of_beq_eq_true he
        exact .inl (.inr (by rw [← eb, this]; exact List.all_eq_true.1 hx2 t ht))
      · have := Nat.eq_of_beq_eq_true h
        exact .inr (by rw [← ea, ← eb, this]; exact Nat.beq_refl _)
theorem orderOk_of2 {l : List Oper} {ms : List Nat} {tss : List (List Nat)} {m : Nat} {sg : List (Nat × Nat)} (hsg : sg.length = m) (h : orderOk2 l ms tss m sg = true) : orderOk l ms tss m = true := by
  refine List.all_eq_true.2 fun y hy => ?_
  have h0 := List.all_eq_true.1 h y hy
  simp only [Bool.and_eq_true] at h0 ⊢
  refine ⟨h0.1, ?_⟩
  have h1 := h0.2
  cases hb : Nat.blt y m with
  | false => rw [hb] at h1; exact h1
  | true =>
    rw [hb, cond_true] at h1
    rw [cond_true]
    simp only [Bool.and_eq_true] at h1 ⊢
    obtain ⟨⟨h2, h3⟩, h4⟩ := h1
    refine ⟨⟨?_, h3⟩, List.all_eq_true.2 fun x hx => ?_⟩
    · unfold sigOk at h2
      cases hd : (l.getD y default).dst with
      | none => rw [hd] at h2; simp at h2
      | some d => rfl
    · have hxy := List.mem_range.1 hx
      have hym := blt_lt hb
      have hxr : x ∈ List.range l.length := List.mem_range.2 (by have := List.mem_range.1 hy; omega)
      have g0 := List.all_eq_true.1 h x hxr
      have hbx : Nat.blt x m = true := by simp [Nat.blt_eq]; omega
      simp only [hbx, cond_true, Bool.and_eq_true] at g0
      have g2 := g0.2.1.1
      cases hc : clash l.toArray (l.getD x default) (l.getD y default) with
      | false => simp
      | true =>
        have := clash_of g2 h2 hc
        have hgx : (sg.take y)[x]? = some (sg.getD x (0, 0)) := by
          rw [List.getElem?_take, if_pos hxy]
          simp [List.getD, List.getElem?_eq_getElem (show x < sg.length by omega)]
        have := pairsOk_at h4 hgx this
        simp only [Nat.zero_add] at this
        simp only [Bool.not_true, Bool.false_or]
        exact this
theorem fold_bit (ms : List Nat) : ∀ (ds : List Nat) (s j : Nat), (ds.foldl (fun s j => s ||| 2 ^ j ||| ms.getD j 0) s).testBit j = true → s.testBit j = true ∨ ∃ d ∈ ds, j = d ∨ (ms.getD d 0).testBit j = true
  | [], s, j, h => .inl h
  | d :: ds, s, j, h => by
    rw [List.foldl_cons] at h
    rcases fold_bit ms ds _ j h with h | ⟨d', h1, h2⟩
    · simp only [Nat.testBit_or, Bool.or_eq_true, Nat.testBit_two_pow, decide_eq_true_eq] at h
      rcases h with (h | h) | h
      · exact .inl h
      · exact .inr ⟨d, by simp, .inl h.symm⟩
      · exact .inr ⟨d, by simp, .inr h⟩
    · exact .inr ⟨d', List.mem_cons_of_mem _ h1, h2⟩
section
variable {l : List Oper} {ms : List Nat} {tss : List (List Nat)} {m : Nat}
theorem orderOk_at (h : orderOk l ms tss m = true) {y : Nat} {o : Oper} (hy : l[y]? = some o) :
    (∀ j ∈ deps o, j < y) ∧ (∀ j, (ms.getD y 0).testBit j = true → ∃ d ∈ deps o, j = d ∨ (ms.getD d 0).testBit j = true) ∧
    (y < m → (∃ d, o.dst = some d) ∧ (∀ t ∈ tss.getD y [], t ∈ looks l.toArray o ∨ ∀ (j : Nat) (ox : Oper), l[j]? = some ox → ox.dst ≠ some t) ∧ ∀ x ox, x < y → l[x]? = some ox → clash l.toArray ox o = true → (ms.getD y 0).testBit x = true) ∧
    (m ≤ y → ∀ x, x < y → (ms.getD y 0).testBit x = true) := by
  have hlt := (List.getElem?_eq_some_iff.1 hy).1
  have h0 := List.all_eq_true.1 h y (List.mem_range.2 hlt)
  have hg : l.getD y default = o := by simp [List.getD, hy]
  simp only [hg, Bool.and_eq_true] at h0
  obtain ⟨⟨h1, h2⟩, h3⟩ := h0
  refine ⟨fun j hj => blt_lt (List.all_eq_true.1 h1 j hj), fun j hj => ?_, fun hm => ?_, fun hm x hx => ?_⟩
  · rw [Nat.eq_of_beq_eq_true h2] at hj
    rcases fold_bit ms _ _ _ hj with h | h
    · simp at h
    · exact h
  · have hb : Nat.blt y m = true := by simpa [Nat.blt_eq] using hm
    rw [hb, cond_true] at h3
    simp only [Bool.and_eq_true] at h3
    refine ⟨Option.isSome_iff_exists.1 h3.1.1, fun t ht => ?_, fun x ox hx hox hc => ?_⟩
    · have h5 := List.all_eq_true.1 h3.1.2 t ht
      rw [Bool.or_eq_true] at h5
      rcases h5 with h5 | h5
      · obtain ⟨z, hz, he⟩ := List.any_eq_true.1 h5
        exact .inl (by rw [Nat.eq_of_beq_eq_true he]; exact hz)
      · exact .inr fun j ox hj => unwr_at h5 hj
    · have := List.all_eq_true.1 h3.2 x (List.mem_range.2 hx)
      have hgx : l.getD x default = ox := by simp [List.getD, hox]
      rw [hgx, hc] at this
      simpa using this
  · have hb : Nat.blt y m = false := by
      cases hb : Nat.blt y m with
      | false => rfl
      | true => have := blt_lt hb; omega
    rw [hb, cond_false] at h3
    exact List.all_eq_true.1 h3 x (List.mem_range.2 hx)
/-- What is listed goes down along the edges. -/
def Closed (l : List Oper) (L : Nat → Bool) : Prop := ∀ y o, l[y]? = some o → L y = true → ∀ j ∈ deps o, L j = true
theorem closed_anc (h : orderOk l ms tss m = true) {L : Nat → Bool} (hc : Closed l L) : ∀ (y : Nat) (o : Oper), l[y]? = some o → (∀ j ∈ deps o, L j = true) → ∀ x, (ms.getD y 0).testBit x = true → L x = true := by
  intro y
  induction y using Nat.strongRecOn with
  | _ y ih =>
    intro o hy hd x hx
    obtain ⟨h1, h2, _⟩ := orderOk_at h hy
    obtain ⟨d, hd1, hd2⟩ := h2 x hx
    rcases hd2 with rfl | hd2
    · exact hd _ hd1
    · have hlt := h1 d hd1
      have hyl := (List.getElem?_eq_some_iff.1 hy).1
      have hdl : l[d]? = some (l[d]'(by omega)) := List.getElem?_eq_getElem _
      exact ih d hlt _ hdl (hc d _ hdl (hd d hd1)) x hd2
end
theorem Sat.env_congr {G : Ghost} {Φ : Frz} {β : Own} {n : Nat} {env env' : Env} {bl : List (Nat × Blk)} {a : Act} {w : World} (h : Sat G Φ β (St.mk n env bl) a w) (he : ∀ t e, lk env' t = some e → lk env t = some e) : Sat G Φ β (St.mk n env' bl) a w :=
  ⟨h.kept, h.fits, h.old, h.siz, h.dfr, fun t q v hl => h.env t q v (he t _ hl), h.blk, h.vir, h.inj⟩
section
variable {P : Program} {G : Ghost} {ops : Array Oper} {n : Nat} {bl : List (Nat × Blk)}
/-- THE LEXICAL RUN: each operation by what it looks at. -/
def Lex (P : Program) (G : Ghost) (ops : Array Oper) (n : Nat) (bl : List (Nat × Blk)) : List Oper → List (List Nat) → Env → (Env → Prop) → Prop
  | [], _, env, K => K env
  | o :: rest, tss, env, K => ∃ d p v, o.dst = some d ∧ d < n ∧ GOk (St.mk n (only (tss.headD []) env) bl) ops o p ∧ PureOp P G (St.mk n (only (tss.headD []) env) bl) o p v ∧ Lex P G ops n bl rest tss.tail ((d, (p, v)) :: env) K
theorem Lex.vals : ∀ {l : List Oper} {tss : List (List Nat)} {env : Env} {K : Env → Prop}, Lex P G ops n bl l tss env K →
    ∃ vals : Env, vals.length = l.length ∧ K (eL (fun _ => true) 0 vals env) ∧ ∀ i o, l[i]? = some o → ∃ d p v, vals[i]? = some (d, (p, v)) ∧ o.dst = some d ∧ d < n ∧
      GOk (St.mk n (only (tss.getD i []) (eL (fun j => decide (j < i)) 0 vals env)) bl) ops o p ∧ PureOp P G (St.mk n (only (tss.getD i []) (eL (fun j => decide (j < i)) 0 vals env)) bl) o p v
  | [], tss, env, K, h => ⟨[], rfl, h, fun i o hi => by simp at hi⟩
  | o :: rest, tss, env, K, ⟨d, p, v, h1, h2, h3, h4, h5⟩ => by
    obtain ⟨vals, g1, g2, g3⟩ := Lex.vals h5
    have shift : ∀ (L : Nat → Bool) (vals : Env) (k : Nat) (env : Env), eL L (k + 1) vals env = eL (fun j => L (j + 1)) k vals env := by
      intro L vals
      induction vals with
      | nil => intro k env; rfl
      | cons x r ih => intro k env; rw [eL, eL, ih]
    refine ⟨(d, (p, v)) :: vals, by simp [g1], ?_, fun i o' hi => ?_⟩
    · rw [eL, if_pos rfl, shift]; exact g2
    · cases i with
      | zero =>
        simp at hi; subst hi
        have hz : eL (fun j => decide (j < 0)) 0 ((d, (p, v)) :: vals) env = env := by
          have : (fun j => decide (j < 0)) = fun _ : Nat => false := by funext j; simp
          rw [this, eL_none]
        have ht : tss.getD 0 [] = tss.headD [] := by cases tss <;> rfl
        rw [hz, ht]
        exact ⟨d, p, v, rfl, h1, h2, h3, h4⟩
      | succ i =>
        obtain ⟨d', p', v', k1, k2, k3, k4, k5⟩ := g3 i o' (by simpa using hi)
        have hz : eL (fun j => decide (j < i + 1)) 0 ((d, (p, v)) :: vals) env = eL (fun j => decide (j < i)) 0 vals ((d, (p, v)) :: env) := by
          rw [eL, if_pos (by simp), shift]
          congr 1
          funext j; simp
        have ht : tss.getD (i + 1) [] = tss.tail.getD i [] := by cases tss <;> simp
        rw [hz, ht]
        exact ⟨d', p', v', by simpa using k1, k2, k3, k4, k5⟩
theorem mem_ready' {l : List Oper} {L : Array Bool} {i : Nat} (h : i ∈ Region.ready .any l.toArray L) : ∃ o, l[i]? = some o ∧ L.getD i true = false ∧ ∀ j ∈ deps o, L.getD j false = true := by
  obtain ⟨h1, o, h2, h3⟩ := mem_ready.1 h
  refine ⟨o, by simpa using h2, h1, fun j hj => ?_⟩
  simp only [deps, List.mem_filterMap] at hj
  obtain ⟨e, he, hb⟩ := hj
  split at hb
  · rename_i hbind
    obtain rfl := Option.some.inj hb
    exact h3 e (by simpa using he) hbind
  · cases hb
theorem ready_mk {l : List Oper} {L : Array Bool} {i : Nat} {o : Oper} (ho : l[i]? = some o) (hu : L.getD i true = false) (hd : ∀ j ∈ deps o, L.getD j false = true) : i ∈ Region.ready .any l.toArray L :=
  mem_ready.2 ⟨hu, o, by simpa using ho, fun e he hb => hd e.on (by simp only [deps, List.mem_filterMap]; exact ⟨e, by simpa using he, by simp [hb]⟩)⟩
/-- The end of the region in the text's order, where it is forced. -/
theorem forced {l : List Oper} {ms : List Nat} {tss : List (List Nat)} {m : Nat} (hok : orderOk l ms tss m = true) {Q' : Exit → Act → World → Prop} :
    ∀ (fuel k : Nat) (L : Array Bool) (a : Act) (w : World), fuel = l.length - k → m ≤ k → k ≤ l.length → L.size = l.length → (∀ j, j < l.length → L.getD j true = decide (j < k)) →
      wpList P l.toArray Q' (l.drop k) a w → wpAny P .any l.toArray Q' fuel L a w := by
  intro fuel
  induction fuel with
  | zero =>
    intro k L a w hf hm hk hs hL h
    have hkl : k = l.length := by omega
    have hdrop : l.drop k = [] := List.drop_eq_nil_of_le (by omega)
    rw [hdrop] at h
    refine ⟨?_, h⟩
    refine List.eq_nil_iff_forall_not_mem.2 fun i hi => ?_
    obtain ⟨o, h1, h2, _⟩ := mem_ready' hi
    have hil := (List.getElem?_eq_some_iff.1 h1).1
    rw [hL i hil] at h2
    simp at h2; omega
  | succ fuel ih =>
    intro k L a w hf hm hk hs hL h
    have hkl : k < l.length := by omega
    have hLf : ∀ j, j < l.length → L.getD j false = decide (j < k) := fun j hj => by
      have := hL j hj
      rw [Array.getD_eq_getD_getElem?] at this ⊢
      rw [Array.getElem?_eq_getElem (by omega)] at this ⊢
      exact this
    have hcl : Closed l (fun j => L.getD j false) := fun y o hy hL' j hj => by
      have hyl := (List.getElem?_eq_some_iff.1 hy).1
      have hjy := (orderOk_at hok hy).1 j hj
      have hL' : L.getD y false = true := hL'
      rw [hLf y hyl] at hL'
      show L.getD j false = true
      rw [hLf j (by omega)]
      simp at hL' ⊢; omega
    refine ⟨fun hr => ?_, fun i hi => ?_⟩
    · exfalso
      have hmem : k ∈ Region.ready .any l.toArray L := ready_mk (o := l[k]) (List.getElem?_eq_getElem _) (by rw [hL k hkl]; simp) (fun j hj => by
        have := (orderOk_at hok (List.getElem?_eq_getElem hkl)).1 j hj
        rw [hLf j (by omega)]; simpa using this)
      rw [hr] at hmem; cases hmem
    · obtain ⟨o, h1, h2, h3⟩ := mem_ready' hi
      have hil := (List.getElem?_eq_some_iff.1 h1).1
      have hik : i = k := by
        rcases Nat.lt_trichotomy i k with hlt | heq | hgt
        · rw [hL i hil] at h2; simp at h2; omega
        · exact heq
        · exfalso
          have hanc := (orderOk_at hok h1).2.2.2 (by omega) k hgt
          have := closed_anc hok hcl i o h1 h3 k hanc
          have this : L.getD k false = true := this
          rw [hLf k hkl] at this
          simp at this
      subst hik
      rw [List.drop_eq_getElem_cons hkl] at h
      have ho : l[i] = o := by rw [List.getElem?_eq_getElem hil] at h1; exact Option.some.inj h1
      rw [ho] at h
      unfold wpOp
      have hio : l.toArray[i]? = some o := by simpa using h1
      simp only [hio]
      have next : ∀ a' w', wpList P l.toArray Q' (l.drop (i + 1)) a' w' → wpAny P .any l.toArray Q' fuel (L.setIfInBounds i true) a' w' := fun a' w' hn =>
        ih (i + 1) _ a' w' (by omega) (by omega) (by omega) (by simpa using hs) (fun j hj => by
          by_cases e : j = i
          · subst e
            rw [Array.getD_eq_getD_getElem?, Array.getElem?_setIfInBounds_self_of_lt (by omega)]
            simp
          · rw [getD_set_ne true (Ne.symm e), hL j hj]
            simp only [decide_eq_decide]; omega) hn
      unfold wpList at h
      split
      · rename_i hw
        rw [if_pos hw] at h
        exact h.imp (Oper.wp_mono next) id
      · rename_i hw
        rw [if_neg hw] at h
        exact next _ _ h
def un (L : Nat → Bool) : Nat → Nat
  | 0 => 0
  | n + 1 => (if L n then 0 else 1) + un L n
theorem un_congr {L L' : Nat → Bool} : ∀ n, (∀ j, j < n → L j = L' j) → un L n = un L' n
  | 0, _ => rfl
  | n + 1, h => by rw [un, un, h n (by omega), un_congr n (fun j hj => h j (by omega))]
theorem un_set {L L' : Nat → Bool} {i : Nat} (hi : L i = false) (hi' : L' i = true) (ho : ∀ j, j ≠ i → L' j = L j) : ∀ n, i < n → un L n = un L' n + 1
  | 0, h => by omega
  | n + 1, h => by
    rw [un, un]
    by_cases e : i = n
    · subst e
      rw [hi, hi', un_congr (L := L') (L' := L) i (fun j hj => ho j (by omega))]
      simp; omega
    · rw [ho n (Ne.symm e), un_set hi hi' ho n (by omega)]
      omega
theorem un_zero {L : Nat → Bool} : ∀ n, un L n = 0 → ∀ i, i < n → L i = true
  | 0, _, i, hi => by omega
  | n + 1, h, i, hi => by
    rw [un] at h
    by_cases e : i = n
    · subst e
      cases hL : L i with
      | true => rfl
      | false => rw [hL] at h; simp at h
    · exact un_zero n (by omega) i (by omega)
theorem un_lt {m : Nat} : ∀ n, m ≤ n → un (fun j => decide (j < m)) n = n - m
  | 0, h => by simp [un]
  | n + 1, h => by
    rw [un]
    by_cases e : m = n + 1
    · subst e
      have : ∀ k, k ≤ n + 1 → un (fun j => decide (j < n + 1)) k = 0 := by
        intro k
        induction k with
        | zero => intro _; rfl
        | succ k ih => intro hk; rw [un, ih (by omega)]; simp; omega
      rw [this n (by omega)]; simp
    · rw [un_lt n (by omega)]
      have : ¬ n < m := by omega
      simp [this]; omega
theorem lexAny {l : List Oper} {ms : List Nat} {tss : List (List Nat)} {m : Nat} (hok : orderOk l ms tss m = true) (hml : m ≤ l.length) {vals env : Env} {Φ0 : Frz} {Qs : St → Prop} {Q' : Exit → Act → World → Prop} (hvl : vals.length = m)
    (hv : ∀ i o, i < m → l[i]? = some o → ∃ d p v, vals[i]? = some (d, (p, v)) ∧ o.dst = some d ∧ d < n ∧ GOk (St.mk n (only (tss.getD i []) (eL (fun j => decide (j < i)) 0 vals env)) bl) l.toArray o p ∧ PureOp P G (St.mk n (only (tss.getD i []) (eL (fun j => decide (j < i)) 0 vals env)) bl) o p v)
    (hK : RG P G l.toArray (l.drop m) Qs (St.mk n (eL (fun _ => true) 0 vals env) bl))
    (hq : ∀ A' Φ' β' a' w', Qs A' → Sat G Φ' β' A' a' w' → Φ0.le Φ' → Q' .normal a' w') :
    ∀ (fuel : Nat) (L : Array Bool) (Φ : Frz) (β : Own) (a : Act) (w : World), fuel = un (fun j => L.getD j true) l.length → L.size = l.length → Closed l (fun j => L.getD j false) → (∀ j, m ≤ j → j < l.length → L.getD j true = false) → Φ0.le Φ →
      Sat G Φ β (St.mk n (eL (fun j => L.getD j false) 0 vals env) bl) a w → wpAny P .any l.toArray Q' fuel L a w := by
  intro fuel
  induction fuel with
  | zero =>
    intro L Φ β a w hf hs hcl htl hle hsat
    have hall := un_zero _ hf.symm
    have hm : m = l.length := by
      rcases Nat.lt_or_ge m l.length with h | h
      · have h' : L.getD m true = true := hall m h
        rw [htl m (Nat.le_refl _) h] at h'; cases h'
      · omega
    refine forced hok 0 m L a w (by omega) (Nat.le_refl _) hml hs (fun j hj => by have h' : L.getD j true = true := hall j hj; rw [h']; simp; omega) ?_
    refine hK Φ β a w (hsat.env_congr fun t e h => ?_) Q' fun A' Φ' β' a' w' q s le => hq A' Φ' β' a' w' q s (Frz.le_trans hle le)
    rw [← h]
    refine eL_congr vals 0 env env rfl fun j x hj hx => ?_
    have hjl : j < l.length := by have := (List.getElem?_eq_some_iff.1 hj).1; omega
    have := hall j hjl
    simp only [Nat.zero_add] at this ⊢
    rw [Array.getD_eq_getD_getElem?, Array.getElem?_eq_getElem (by omega)] at this ⊢
    exact this
  | succ fuel ih =>
    intro L Φ β a w hf hs hcl htl hle hsat
    have hLf : ∀ j, j < l.length → L.getD j false = L.getD j true := fun j hj => by
      rw [Array.getD_eq_getD_getElem?, Array.getD_eq_getD_getElem?, Array.getElem?_eq_getElem (by omega)]; rfl
    by_cases hpre : ∀ j, j < m → L.getD j true = true
    · refine forced hok (fuel + 1) m L a w ?_ (Nat.le_refl _) hml hs (fun j hj => ?_) ?_
      · rw [hf, un_congr (L' := fun j => decide (j < m)) _ (fun j hj => ?_), un_lt _ hml]
        by_cases e : j < m
        · rw [hpre j e]; simp [e]
        · rw [htl j (by omega) hj]; simp [e]
      · by_cases e : j < m
        · rw [hpre j e]; simp [e]
        · rw [htl j (by omega) hj]; simp [e]
      · refine hK Φ β a w (hsat.env_congr fun t e h => ?_) Q' fun A' Φ' β' a' w' q s le => hq A' Φ' β' a' w' q s (Frz.le_trans hle le)
        rw [← h]
        refine eL_congr vals 0 env env rfl fun j x hj hx => ?_
        have hjm : j < m := by have := (List.getElem?_eq_some_iff.1 hj).1; omega
        simp only [Nat.zero_add]
        rw [hLf j (by omega), hpre j hjm]
    · -- some early operation is not listed yet; the first of them
      have hex : ∃ y, y < m ∧ L.getD y true = false ∧ ∀ j, j < y → L.getD j true = true := by
        have : ∃ j, j < m ∧ L.getD j true = false := by
          refine Classical.byContradiction fun hno => hpre fun j hj => ?_
          cases hb : L.getD j true with
          | true => rfl
          | false => exact absurd ⟨j, hj, hb⟩ hno
        obtain ⟨j0, hj0, hb0⟩ := this
        have key : ∀ k, k ≤ m → (∀ j, j < k → L.getD j true = true) ∨ ∃ y, y < m ∧ L.getD y true = false ∧ ∀ j, j < y → L.getD j true = true := by
          intro k
          induction k with
          | zero => intro _; exact .inl fun j hj => by omega
          | succ k ihk =>
            intro hk
            rcases ihk (by omega) with h | h
            · cases hb : L.getD k true with
              | true =>
                refine .inl fun j hj => ?_
                by_cases e : j = k
                · rw [e]; exact hb
                · exact h j (by omega)
              | false => exact .inr ⟨k, by omega, hb, h⟩
            · exact .inr h
        rcases key m (Nat.le_refl _) with h | h
        · have := h j0 hj0; rw [hb0] at this; cases this
        · exact h
      obtain ⟨y, hym, hyu, hyl⟩ := hex
      have hylen : y < l.length := by omega
      refine ⟨fun hr => ?_, fun i hi => ?_⟩
      · exfalso
        have hmem : y ∈ Region.ready .any l.toArray L := ready_mk (o := l[y]) (List.getElem?_eq_getElem _) hyu (fun j hj => by
          have := (orderOk_at hok (List.getElem?_eq_getElem hylen)).1 j hj
          rw [hLf j (by omega)]; exact hyl j this)
        rw [hr] at hmem; cases hmem
      · obtain ⟨o, h1, h2, h3⟩ := mem_ready' hi
        have hil := (List.getElem?_eq_some_iff.1 h1).1
        have him : i < m := by
          rcases Nat.lt_or_ge i m with h | h
          · exact h
          · exfalso
            have hanc := (orderOk_at hok h1).2.2.2 h y (by omega)
            have := closed_anc hok hcl i o h1 h3 y hanc
            have this : L.getD y false = true := this
            rw [hLf y hylen, hyu] at this; cases this
        obtain ⟨d, p, v, g1, g2, g3, g4, g5⟩ := hv i o him h1
        obtain ⟨_, hlooks, hord⟩ := (orderOk_at hok h1).2.2.1 him
        have hLi : L.getD i false = false := by rw [hLf i hil]; exact h2
        -- who writes what this operation looks at, or writes
        have before : ∀ j x, vals[j]? = some x → (x.1 ∈ looks l.toArray o ∨ x.1 = d) → j ≠ i → L.getD j false = decide (j < i) := fun j x hj hx hne => by
          have hjm : j < m := by have := (List.getElem?_eq_some_iff.1 hj).1; omega
          have hjl : j < l.length := by omega
          have hoj : l[j]? = some l[j] := List.getElem?_eq_getElem _
          obtain ⟨dj, pj, vj, q1, q2, _⟩ := hv j l[j] hjm hoj
          rw [hj] at q1
          obtain rfl := Option.some.inj q1
          simp only at hx
          rcases Nat.lt_or_ge j i with hlt | hge
          · have hc : clash l.toArray l[j] o = true := by
              unfold clash
              rw [q2, g2]
              rcases hx with hx | hx
              · have : (looks l.toArray o).any (Nat.beq dj) = true := List.any_eq_true.2 ⟨dj, hx, Nat.beq_refl _⟩
                simp [this]
              · subst hx; simp
            have := closed_anc hok hcl i o h1 h3 j (hord j _ hlt hoj hc)
            have this : L.getD j false = true := this
            rw [this]; simp [hlt]
          · have hgt : i < j := by omega
            have hc : clash l.toArray o l[j] = true := by
              unfold clash
              rw [q2, g2]
              rcases hx with hx | hx
              · have : (looks l.toArray o).any (Nat.beq dj) = true := List.any_eq_true.2 ⟨dj, hx, Nat.beq_refl _⟩
                simp [this]
              · subst hx; simp
            cases hb : L.getD j false with
            | false => simp; omega
            | true =>
              exfalso
              have hordj := ((orderOk_at hok hoj).2.2.1 hjm).2.2 i o hgt h1 hc
              have := closed_anc hok hcl j _ hoj (hcl j _ hoj hb) i hordj
              have this : L.getD i false = true := this
              rw [hLi] at this; cases this
        have hsub : Sat G Φ β (St.mk n (only (tss.getD i []) (eL (fun j => decide (j < i)) 0 vals env)) bl) a w := hsat.env_congr fun t e h => by
          obtain ⟨ht, he⟩ := lk_only h
          rw [← he]
          refine eL_congr vals 0 env env rfl fun j x hj hx => ?_
          simp only [Nat.zero_add]
          by_cases hji : j = i
          · subst hji; rw [hLi]; simp
          · rcases hlooks t ht with hl1 | hl2
            · exact before j x hj (.inl (by rw [hx]; exact hl1)) hji
            · exfalso
              have hjm : j < m := by have := (List.getElem?_eq_some_iff.1 hj).1; omega
              have hoj : l[j]? = some (l[j]'(by omega)) := List.getElem?_eq_getElem _
              obtain ⟨dj, pj, vj, q1, q2, _⟩ := hv j _ hjm hoj
              rw [hj] at q1
              obtain rfl := Option.some.inj q1
              exact hl2 j _ hoj (by rw [q2]; simp only at hx; rw [hx])
        have hw := g4 G Φ β a w hsub
        have next : ∀ (Φ' : Frz) (u : Value) (w' : World), Φ.le Φ' → Sat G Φ' β (St.mk n ((d, (p, v)) :: eL (fun j => L.getD j false) 0 vals env) bl) (a.put (some d) u) w' → wpAny P .any l.toArray Q' fuel (L.setIfInBounds i true) (a.put (some d) u) w' := fun Φ' u w' hle' hsat' => by
          have hne : ∀ j, j ≠ i → ∀ b, (L.setIfInBounds i true).getD j b = L.getD j b := fun j hj b => getD_set_ne b (Ne.symm hj)
          have heq : ∀ b, (L.setIfInBounds i true).getD i b = true := fun b => by rw [Array.getD_eq_getD_getElem?, Array.getElem?_setIfInBounds_self_of_lt (by omega)]; rfl
          refine ih _ Φ' β _ w' ?_ (by simpa using hs) (fun y' o' hy' hL' j hj => ?_) (fun j hmj hjl => by rw [hne j (by omega)]; exact htl j hmj hjl) (Frz.le_trans hle hle') (hsat'.env_congr fun t e h => ?_)
          · have := un_set (L := fun j => L.getD j true) (L' := fun j => (L.setIfInBounds i true).getD j true) (i := i) h2 (heq true) (fun j hj => hne j hj true) l.length hil
            omega
          · by_cases e1 : j = i
            · subst e1; exact heq false
            · show (L.setIfInBounds i true).getD j false = true
              rw [hne j e1]
              by_cases e2 : y' = i
              · subst e2
                rw [h1] at hy'
                obtain rfl := Option.some.inj hy'
                exact h3 j hj
              · have hL'' : L.getD y' false = true := by rw [← hne y' e2 false]; exact hL'
                exact hcl y' o' hy' hL'' j hj
          · by_cases e1 : t = d
            · subst e1
              have hl1 : lk (eL (fun j => (L.setIfInBounds i true).getD j false) 0 vals env) t = lk (eL (fun j => decide (j < 0 + i + 1)) 0 vals env) t := eL_congr vals 0 env env rfl fun j x hj hx => by
                simp only [Nat.zero_add]
                by_cases hji : j = i
                · subst hji; rw [heq]; simp
                · rw [hne j hji, before j x hj (.inr hx) hji]
                  simp only [decide_eq_decide]; omega
              rw [hl1, eL_lt vals 0 i env _ g1, lk_cons, if_pos rfl] at h
              rw [lk_cons, if_pos rfl]; exact h
            · rw [lk_cons, if_neg (Ne.symm e1), ← h]
              refine eL_congr vals 0 env env rfl fun j x hj hx => ?_
              simp only [Nat.zero_add]
              by_cases hji : j = i
              · subst hji
                rw [hj] at g1
                obtain rfl := Option.some.inj g1
                exact absurd hx.symm e1
              · rw [hne j hji]
        unfold wpOp
        have hio : l.toArray[i]? = some o := by simpa using h1
        simp only [hio]
        by_cases hpp : p
        · rw [if_pos (hw.2 hpp)]
          refine .inl (Oper.wp_mono' (g5 Φ β a w hsub hpp) (fun a' w' ⟨u, Φ', ha, hvv, hle', heq, hf', hb⟩ => ?_) (fun _ _ _ h => h.elim))
          subst ha
          rw [g2]
          exact next Φ' u w' hle' (hsat.set hle' heq hf' hb g3 (fun _ => hvv) (fun hx => (hx hpp).elim))
        · rw [if_neg (fun hx => hpp (hw.1 hx)), g2]
          exact next Φ undef w Φ.le_refl (hsat.set Φ.le_refl (fun _ _ => rfl) hsat.fits (Below.refl _ _) g3 (fun hx => (hpp hx).elim) (fun _ => rfl))
theorem Kept.drew {w : World} (h : Kept G w) : Kept G { w with drawn := w.drawn + 1 } := ⟨h.os, h.tape, h.output, h.size, h.block⟩
/-- A REGION WHOSE ORDER IS OPEN: the first m operations in the text's order, the rest forced. -/
theorem W.draw {id : Nat} {l : List Oper} {env : Env} {Q : Exit → St → Prop} (ms : List Nat) (tss : List (List Nat)) (m : Nat) (hm : P.follows .mixedOrders = true) (hok : orderOk l ms tss m = true) (hml : Nat.ble m l.length = true)
    (h : Lex P G l.toArray n bl (l.take m) tss env fun env' => RG P G l.toArray (l.drop m) (Q .normal) (St.mk n env' bl)) : W P G (.region id l.toArray true) Q (St.mk n env bl) := fun Φ β a w hs => by
  have hml := Nat.le_of_ble_eq_true hml
  obtain ⟨vals, h1, h2, h3⟩ := Lex.vals h
  have hvl : vals.length = m := by rw [h1]; simp; omega
  refine wp_region_any hm ?_
  have hsz : l.toArray.size = l.length := by simp
  rw [hsz]
  refine lexAny hok hml hvl (fun i o him ho => h3 i o (by rw [List.getElem?_take, if_pos him]; exact ho)) h2 (Φ0 := Φ) (fun A' Φ' β' a' w' q s le => ⟨A', Φ', β', q, s, le⟩) l.length (Array.replicate l.length false) Φ β a { w with drawn := w.drawn + 1 } ?_ (by simp) (fun y o hy hL => ?_) (fun j _ hj => by simp [hj]) Φ.le_refl ?_
  · have : un (fun j => (Array.replicate l.length false).getD j true) l.length = un (fun j => decide (j < 0)) l.length := un_congr _ fun j hj => by simp [hj]
    rw [this, un_lt _ (Nat.zero_le _)]; omega
  · have : (Array.replicate l.length false).getD y false = true := hL
    rw [Array.getD_eq_getD_getElem?, Array.getElem?_replicate] at this
    split at this <;> simp at this
  · have hnone : eL (fun j => (Array.replicate l.length false).getD j false) 0 vals env = env := by
      have : (fun j => (Array.replicate l.length false).getD j false) = fun _ => false := by
        funext j
        rw [Array.getD_eq_getD_getElem?, Array.getElem?_replicate]
        split <;> rfl
      rw [this, eL_none]
    rw [hnone]
    refine ⟨hs.kept.drew, hs.fits, hs.old, hs.siz, hs.dfr, hs.env, hs.blk, hs.vir, hs.inj⟩
theorem Lex.nil {tss : List (List Nat)} {env : Env} {K : Env → Prop} (h : K env) : Lex P G ops n bl [] tss env K := h
theorem Lex.u {d : Nat} {op : Op} {ty : TypeId} {pos : String} {after : Array Edge} {ts : List Nat} {tss : List (List Nat)} {rest : List Oper} {env : Env} {K : Env → Prop} {v : AV}
    (hp : PureOp P G (St.mk n (only ts env) bl) ⟨some d, op, ty, pos, after, none⟩ True v) (hn : Nat.blt d n = true) (h : Lex P G ops n bl rest tss ((d, (True, v)) :: env) K) : Lex P G ops n bl (⟨some d, op, ty, pos, after, none⟩ :: rest) (ts :: tss) env K :=
  ⟨d, True, v, rfl, blt_lt hn, GOk.none rfl, hp, h⟩
theorem Lex.g {d j t : Nat} {want b : Bool} {op : Op} {ty : TypeId} {pos : String} {after : Array Edge} {ts : List Nat} {tss : List (List Nat)} {rest : List Oper} {env : Env} {K : Env → Prop} {v : AV}
    (hj : (ops[j]?).bind (·.dst) = some t) (ht : lk (only ts env) t = some (True, .pv (.one (.bool b))))
    (hp : PureOp P G (St.mk n (only ts env) bl) ⟨some d, op, ty, pos, after, some (j, want)⟩ (b = want) v) (hn : Nat.blt d n = true) (h : Lex P G ops n bl rest tss ((d, (b = want, v)) :: env) K) : Lex P G ops n bl (⟨some d, op, ty, pos, after, some (j, want)⟩ :: rest) (ts :: tss) env K :=
  ⟨d, _, v, rfl, blt_lt hn, GOk.ifT rfl hj ht, hp, h⟩
theorem W.draw2 {id : Nat} {l : List Oper} {env : Env} {Q : Exit → St → Prop} (ms : List Nat) (tss : List (List Nat)) (m : Nat) (sg : List (Nat × Nat)) (hm : P.follows .mixedOrders = true) (hok : orderOk2 l ms tss m sg = true) (hml : Nat.ble m l.length = true) (hsg : Nat.beq sg.length m = true)
    (h : Lex P G l.toArray n bl (l.take m) tss env fun env' => RG P G l.toArray (l.drop m) (Q .normal) (St.mk n env' bl)) : W P G (.region id l.toArray true) Q (St.mk n env bl) := W.draw ms tss m hm (orderOk_of2 (Nat.eq_of_beq_eq_true hsg) hok) hml h
end
end Lf
end
