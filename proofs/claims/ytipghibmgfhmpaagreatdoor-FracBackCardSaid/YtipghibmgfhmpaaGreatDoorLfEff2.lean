/-
  Slices that the call makes: make, append, literals; struct literals; states that are weakened at a loop's head.
-/
import Derived.Test.YtipghibmgfhmpaaGreatDoorLfEff
set_option linter.unusedVariables false
set_option linter.unusedSimpArgs false
namespace Lf
open Go Go.RowKit

/-- Values, row by row. -/
structure RowsRel (Φ : Frz) (xs : List Value) (sz : Nat) (rows : List (List Cell)) : Prop where
  len : xs.length = rows.length * sz
  row : ∀ r ∈ rows, r.length = sz
  get : ∀ (i j : Nat) (r : List Cell) (c : Cell), rows[i]? = some r → r[j]? = some c → ∃ v, xs[i * sz + j]? = some v ∧ Rel Φ v c

theorem idx_lt {i n j sz : Nat} (hi : i < n) (hj : j < sz) : i * sz + j < n * sz := by
  calc i * sz + j < i * sz + sz := by omega
    _ = (i + 1) * sz := by rw [Nat.add_mul, Nat.one_mul]
    _ ≤ n * sz := Nat.mul_le_mul_right _ (by omega)

theorem RowsRel.append {Φ : Frz} {xs ys : List Value} {sz : Nat} {rs ss : List (List Cell)} (h : RowsRel Φ xs sz rs) (h' : RowsRel Φ ys sz ss) : RowsRel Φ (xs ++ ys) sz (rs ++ ss) where
  len := by simp [h.len, h'.len, Nat.add_mul]
  row := fun r hr => (List.mem_append.1 hr).elim (h.row r) (h'.row r)
  get := fun i j r c hi hj => by
    have hjl : ∀ (q : List (List Cell)), (∀ r ∈ q, r.length = sz) → r ∈ q → j < sz := fun q hq hm => by
      have := (List.getElem?_eq_some_iff.1 hj).1
      rw [hq r hm] at this; exact this
    rw [List.getElem?_append] at hi
    split at hi
    · rename_i hlt
      obtain ⟨v, h1, h2⟩ := h.get i j r c hi hj
      refine ⟨v, ?_, h2⟩
      rw [List.getElem?_append_left (by rw [h.len]; exact idx_lt hlt (hjl rs h.row (List.mem_of_getElem? hi)))]
      exact h1
    · rename_i hge
      obtain ⟨v, h1, h2⟩ := h'.get (i - rs.length) j r c hi hj
      refine ⟨v, ?_, h2⟩
      have e : i * sz + j = rs.length * sz + ((i - rs.length) * sz + j) := by
        have : i = rs.length + (i - rs.length) := by omega
        calc i * sz + j = (rs.length + (i - rs.length)) * sz + j := by rw [← this]
          _ = _ := by rw [Nat.add_mul]; omega
      rw [e, List.getElem?_append_right (by rw [h.len]; omega), h.len]
      rw [show rs.length * sz + ((i - rs.length) * sz + j) - rs.length * sz = (i - rs.length) * sz + j by omega]
      exact h1
theorem RowsRel.mono {Φ Φ' : Frz} (hle : Φ.le Φ') {xs : List Value} {sz : Nat} {rs : List (List Cell)} (h : RowsRel Φ xs sz rs) : RowsRel Φ' xs sz rs :=
  ⟨h.len, h.row, fun i j r c hi hj => let ⟨v, a, b⟩ := h.get i j r c hi hj; ⟨v, a, b.mono hle⟩⟩
theorem RowsRel.one {Φ : Frz} {xs : List Value} {r : List Cell} (h : RelL Φ xs r) : RowsRel Φ xs r.length [r] where
  len := by simp [h.length]
  row := fun r' h => by simp at h; rw [h]
  get := fun i j r' c hi hj => by
    match i with
    | 0 => simp at hi; subst hi; simpa using h.get hj
    | i + 1 => simp at hi
theorem RowsRel.nil {Φ : Frz} {sz : Nat} : RowsRel Φ [] sz [] where
  len := by simp
  row := fun r h => by cases h
  get := fun i j r c hi => by simp at hi

theorem RowsRel.oneCell {Φ : Frz} {xs : List Value} {sz : Nat} {rs : List (List Cell)} (h : RowsRel Φ xs sz rs) : ∀ u ∈ xs, u.oneCell' = true := fun u hu => by
  obtain ⟨k, hk, rfl⟩ := List.mem_iff_getElem.1 hu
  have hlen := h.len
  have hsz : 0 < sz := by
    cases sz with
    | zero => simp at hlen; subst hlen; simp at hk
    | succ n => omega
  have h1 : k / sz < rs.length := by
    rw [Nat.div_lt_iff_lt_mul hsz]; omega
  have h2 : k % sz < sz := Nat.mod_lt _ hsz
  have h3 : (rs[k / sz]).length = sz := h.row _ (List.getElem_mem _)
  obtain ⟨v, h4, h5⟩ := h.get (k / sz) (k % sz) rs[k / sz] (rs[k / sz][k % sz]'(by omega)) (List.getElem?_eq_getElem _) (List.getElem?_eq_getElem _)
  have e : k / sz * sz + k % sz = k := by rw [Nat.mul_comm]; exact Nat.div_add_mod _ _
  rw [e, List.getElem?_eq_getElem hk] at h4
  simp only [Option.some.injEq] at h4
  rw [h4]; exact h5.one.2

section
variable {P : Program} {G : Ghost} {A : St} {Φ : Frz} {β : Own} {a : Act} {w w' : World}

theorem BlkRel.owns {b cap : Nat} {B : Blk} (h : BlkRel Φ w b cap B) (ho : B.ob = false) : ∃ xs, w.ownsRow 0 B.E B.sz (.slice (some ⟨b, 0, none⟩) B.rows.length cap) B.rows.length xs ∧ RowsRel Φ xs B.sz B.rows := by
  obtain ⟨cur, g1, g2, g3, g4, g5, g6⟩ := h.cells ho
  have hle : B.rows.length * B.sz ≤ cur.size := by rw [g4]; exact Nat.mul_le_mul_right _ g2
  refine ⟨cur.toList.take (B.rows.length * B.sz), ⟨by simp; omega, .inr ⟨b, cap, cur, rfl, Nat.zero_le _, g1, g2, g3, g4, rfl⟩⟩, ⟨by simp; omega, g5, fun i j r c hi hj => ?_⟩⟩
  obtain ⟨v, h1, h2⟩ := g6 i j r c hi hj
  refine ⟨v, ?_, h2⟩
  have hlt := idx_lt (List.getElem?_eq_some_iff.1 hi).1 (by have := (List.getElem?_eq_some_iff.1 hj).1; rwa [g5 r (List.mem_of_getElem? hi)] at this : j < B.sz)
  rw [List.getElem?_take, if_pos hlt]
  simpa using h1

theorem BlkRel.of_owns {b cap E sz n : Nat} {rows : List (List Cell)} {xs : List Value} (h : w.ownsRow 0 E sz (.slice (some ⟨b, 0, none⟩) n cap) n xs) (hr : RowsRel Φ xs sz rows) (hn : rows.length = n) (ho : Nat.ble mapTag E = false) :
    BlkRel Φ w b cap ⟨E, sz, rows⟩ := by
  obtain ⟨hl, h⟩ := h
  rcases h with ⟨h, _⟩ | ⟨g, c, cur, h1, _, h2, h3, h4, h5, h6⟩
  · cases h
  · simp only [Value.slice.injEq, Option.some.injEq, Addr.mk.injEq, and_true, true_and] at h1
    obtain ⟨rfl, rfl⟩ := h1
    refine .inl ⟨ho, cur, h2, by simpa [hn] using h3, h4, h5, hr.row, fun i j r c hi hj => ?_⟩
    obtain ⟨v, k1, k2⟩ := hr.get i j r c hi hj
    refine ⟨v, ?_, k2⟩
    rw [← h6, List.getElem?_take] at k1
    split at k1
    · simpa using k1
    · cases k1

/-- The elements of a slice value, as the machine sees them. -/
def Src (Φ : Frz) (w : World) (v : Value) (sz : Nat) (rows : List (List Cell)) : Prop :=
  (v = .slice none 0 0 ∧ rows = []) ∨ ∃ ad cap xs, v = .slice (some ad) rows.length cap ∧ RowsRel Φ xs sz rows ∧ ∀ (j : Nat) (u : Value), xs[j]? = some u → w.cell? (ad.add j) = some u

theorem src_own (hs : Sat G Φ β A a w) {v : Value} {n : Nat} {B : Blk} (h : AVRel Φ β A.blks v (.slc n)) (hl : lk A.blks n = some B) : Src Φ w v B.sz B.rows := by
  obtain ⟨B', h1, hob, h2⟩ := h
  obtain rfl : B = B' := by rw [hl] at h1; exact Option.some.inj h1
  rcases h2 with ⟨h2, rfl⟩ | ⟨b, cap, h2, rfl⟩
  · exact .inl ⟨rfl, hs.vir n B h1 h2⟩
  · obtain ⟨xs, k1, k2⟩ := (hs.blk n B b cap h1 h2).1.owns hob
    exact .inr ⟨⟨b, 0, none⟩, cap, xs, rfl, k2, k1.cells (g := b) rfl⟩

theorem src_data (hf : Fits Φ w) {v : Value} {sz : Nat} {rows : List (List Cell)} (h : Rel Φ v (.sl rows)) (hsz : ∀ r ∈ rows, r.length = sz) (hz : 0 < sz) : Src Φ w v sz rows := by
  cases h with
  | sl0 => exact .inl ⟨rfl, rfl⟩
  | slE a cap => exact .inr ⟨a, cap, [], rfl, RowsRel.nil, fun j u h => by simp at h⟩
  | sl b off len cap sz' _ f hlen hcap hsz' hc hr =>
    by_cases he : rows = []
    · subst he
      refine .inr ⟨⟨b, off, none⟩, cap, [], by rw [← hlen], RowsRel.nil, fun j u h => by simp at h⟩
    · obtain ⟨r0, hr0⟩ := List.exists_mem_of_ne_nil rows he
      obtain rfl : sz = sz' := by rw [← hsz r0 hr0, hsz' r0 hr0]
      have hk : ∀ k, k < rows.length * sz → ∃ (r : List Cell) (c : Cell), rows[k / sz]? = some r ∧ r[k % sz]? = some c := fun k hk => by
        have h1 : k / sz < rows.length := by rw [Nat.div_lt_iff_lt_mul hz]; omega
        have h2 : k % sz < sz := Nat.mod_lt _ hz
        have h3 : (rows[k / sz]).length = sz := hsz _ (List.getElem_mem _)
        exact ⟨rows[k / sz], rows[k / sz][k % sz]'(by omega), List.getElem?_eq_getElem _, List.getElem?_eq_getElem _⟩
      refine .inr ⟨⟨b, off, none⟩, cap, (List.range (rows.length * sz)).map fun k => f (k / sz) (k % sz), by rw [hlen], ⟨by simp, hsz, fun i j r c hi hj => ?_⟩, fun j u hu => ?_⟩
      · have hj' : j < sz := by have := (List.getElem?_eq_some_iff.1 hj).1; rwa [hsz r (List.mem_of_getElem? hi)] at this
        have hlt := idx_lt (List.getElem?_eq_some_iff.1 hi).1 hj'
        have e1 : (i * sz + j) / sz = i := by rw [Nat.mul_comm, Nat.mul_add_div hz, Nat.div_eq_of_lt hj', Nat.add_zero]
        have e2 : (i * sz + j) % sz = j := by rw [Nat.mul_comm, Nat.mul_add_mod, Nat.mod_eq_of_lt hj']
        exact ⟨f i j, by simp [List.getElem?_range hlt, e1, e2], hr i j r c hi hj⟩
      · have hlt : j < rows.length * sz := by
          have := (List.getElem?_eq_some_iff.1 hu).1
          simpa using this
        simp only [List.getElem?_map, List.getElem?_range hlt, Option.map_some, Option.some.injEq] at hu
        subst hu
        obtain ⟨r, c, k1, k2⟩ := hk j hlt
        have := fits_cell hf (hc _ _ _ _ k1 k2)
        rw [Addr.add_lit]
        have e : j / sz * sz + j % sz = j := by rw [Nat.mul_comm]; exact Nat.div_add_mod _ _
        rw [e] at this
        exact this

variable {T : TT} (hT : TOK P T)
include hT

omit hT in
theorem appendcall_run {ρ : Operand → Value} {o : Oper} {t : Nat} {x y : Operand} (ho : o.op = .call { callee := .builtin .append, args := #[x, y], argTypes := #[t, t] }) {w w' : World} {v : Value}
    (h : (Builtin.append_ #[t, t] o.type #[ρ x, ρ y]).run P w = .ok v w') : (execOp ρ o).run P w = .ok (.value v) w' := by
  have e : execOp ρ o = (do let d ← resolve ρ { callee := .builtin .append, args := #[x, y], argTypes := #[t, t] } o.type; invoke d.target d.args) := by simp only [execOp, ho]
  rw [e]
  have hm : (#[x, y] : Array Operand).map ρ = #[ρ x, ρ y] := by simp
  simp only [resolve, pure_bind, invoke]
  show ((do pure (Next.value (← Builtin.append_ #[t, t] o.type ((#[x, y] : Array Operand).map ρ))) : Sem Next)).run P w = _
  rw [hm]
  simp [h]

omit hT in
theorem bindOwn_self {d n b cap : Nat} : bindOwn β d n b cap d = some (b, cap) := if_pos rfl
omit hT in
/-- Name d names an empty slice that has no memory. -/
theorem Sat.bindNil (hs : Sat G Φ β A a w) {d n E sz : Nat} : Sat G Φ (fun m => if m = d ∨ m = n then none else β m) (A.bind d n ⟨E, sz, []⟩) a w := by
  have hl : ∀ m, m ≠ d → m ≠ n → lk (A.bind d n ⟨E, sz, []⟩).blks m = lk A.blks m := fun m h1 h2 => by simp only [St.bind]; rw [lk_cons, if_neg (Ne.symm h1), lk_cons, if_neg (Ne.symm h2)]
  refine ⟨hs.kept, hs.fits, hs.old, hs.siz, hs.dfr, fun t q v h => ?_, fun m B' b' cap' h1 h2 => ?_, fun m B' h1 h2 => ?_, fun m m' B1 B2 b' c1 c2 h1 h2 h3 h4 => ?_⟩
  · obtain ⟨v1, h1, rfl⟩ := lk_fgt d _ t q v h
    obtain ⟨v2, h2, rfl⟩ := lk_fgt n _ t q v1 h1
    refine ⟨fun hq => ?_, (hs.env t q v2 h2).2⟩
    have h3 := (hs.env t q v2 h2).1 hq
    cases hn : v2.ment n with
    | true => simp only [cond_true, AV.ment, cond_false]; trivial
    | false =>
      simp only [cond_false]
      cases hd : v2.ment d with
      | true => simp only [cond_true]; trivial
      | false =>
        simp only [cond_false]
        cases v2 with
        | pv p => exact h3
        | tup l => exact h3
        | top => trivial
        | addr m i off =>
          have e1 : m ≠ d := fun e => by subst e; simp [AV.ment] at hd
          have e2 : m ≠ n := fun e => by subst e; simp [AV.ment] at hn
          obtain ⟨b', cap', B', g1, g2, g3⟩ := h3
          exact ⟨b', cap', B', by simp [e1, e2, g1], by rw [hl m e1 e2]; exact g2, g3⟩
        | slc m =>
          have e1 : m ≠ d := fun e => by subst e; simp [AV.ment] at hd
          have e2 : m ≠ n := fun e => by subst e; simp [AV.ment] at hn
          obtain ⟨B', g2, g3⟩ := h3
          exact ⟨B', by rw [hl m e1 e2]; exact g2, by simpa [e1, e2] using g3⟩
        | mp m =>
          have e1 : m ≠ d := fun e => by subst e; simp [AV.ment] at hd
          have e2 : m ≠ n := fun e => by subst e; simp [AV.ment] at hn
          obtain ⟨b', cap', B', g1, g2, g3⟩ := h3
          exact ⟨b', cap', B', by simp [e1, e2, g1], by rw [hl m e1 e2]; exact g2, g3⟩
        | itr k m =>
          have e1 : m ≠ d := fun e => by subst e; simp [AV.ment] at hd
          have e2 : m ≠ n := fun e => by subst e; simp [AV.ment] at hn
          have e3 : k ≠ d := fun e => by subst e; simp [AV.ment] at hd
          have e4 : k ≠ n := fun e => by subst e; simp [AV.ment] at hn
          obtain ⟨b', cap', B', M, c, g1, g2, g3, g4, g5, g6⟩ := h3
          exact ⟨b', cap', B', M, c, by simp [e3, e4, g1], by rw [hl k e3 e4]; exact g2, g3, by simp [e1, e2, g4], by rw [hl m e1 e2]; exact g5, g6⟩
        | pin m b0 c0 f =>
          have e1 : m ≠ d := fun e => by subst e; simp [AV.ment] at hd
          have e2 : m ≠ n := fun e => by subst e; simp [AV.ment] at hn
          obtain ⟨B', g1, g2, g3⟩ := h3
          exact ⟨B', by simp [e1, e2, g1], by rw [hl m e1 e2]; exact g2, g3⟩
  · by_cases e : m = d ∨ m = n
    · simp [e] at h2
    · simp only [e, if_false] at h2
      exact hs.blk m B' b' cap' (by rw [← hl m (fun x => e (.inl x)) (fun x => e (.inr x))]; exact h1) h2
  · by_cases e1 : m = d
    · simp only [St.bind] at h1
      rw [lk_cons, if_pos e1.symm] at h1
      obtain rfl := Option.some.inj h1; rfl
    · by_cases e2 : m = n
      · simp only [St.bind] at h1
        rw [lk_cons, if_neg (Ne.symm e1), lk_cons, if_pos e2.symm] at h1
        obtain rfl := Option.some.inj h1; rfl
      · have e : ¬ (m = d ∨ m = n) := fun h => h.elim e1 e2
        simp only [e, if_false] at h2
        exact hs.vir m B' (by rw [← hl m e1 e2]; exact h1) h2
  · have e : ¬ (m = d ∨ m = n) := fun e => by simp [e] at h3
    have e' : ¬ (m' = d ∨ m' = n) := fun e => by simp [e] at h4
    simp only [e, if_false] at h3
    simp only [e', if_false] at h4
    exact hs.inj m m' B1 B2 b' c1 c2 (by rw [← hl m (fun x => e (.inl x)) (fun x => e (.inr x))]; exact h1) (by rw [← hl m' (fun x => e' (.inl x)) (fun x => e' (.inr x))]; exact h2) h3 h4

omit hT in
theorem Sat.putSlc (hs : Sat G Φ β A a w) {d b cap : Nat} {B : Blk} (hn : d < A.n) (hl : lk A.blks d = some B) (hob : B.ob = false) (hb : β d = some (b, cap)) : Sat G Φ β (A.set d True (.slc d)) (a.put (some d) (.slice (some ⟨b, 0, none⟩) B.rows.length cap)) w :=
  hs.put hn ⟨B, hl, hob, .inr ⟨b, cap, hb, rfl⟩⟩
omit hT in
theorem Sat.putNil (hs : Sat G Φ β A a w) {d : Nat} {B : Blk} (hn : d < A.n) (hl : lk A.blks d = some B) (hob : B.ob = false) (hb : β d = none) : Sat G Φ β (A.set d True (.slc d)) (a.put (some d) (.slice none 0 0)) w :=
  hs.put hn ⟨B, hl, hob, .inl ⟨hb, rfl⟩⟩

omit hT in
theorem append_new {d n e need cap : Nat} {te : TI} {sz : Nat} {xs : List Value} {rows : List (List Cell)} {z : Value} (hob : Nat.ble mapTag e = false) (hn : d < A.n) (hzs : z.cells.size = sz) (hs : Sat G Φ β A a w) (hx : RowsRel Φ xs sz rows) (hlen : rows.length = need) (hge : need ≤ cap) (hcm : cap ≤ maxLen) :
    Sat G Φ (bindOwn β d n w.heap.size cap) ((A.bind d n ⟨e, sz, rows⟩).set d True (.slc d)) (a.put (some d) (.slice (some ⟨w.heap.size, 0, none⟩) need cap)) (w.drew.alloc (.cells (xs.toArray ++ Builtin.zeroCells z.cells (cap - need)) e)) := by
  obtain ⟨h1, h2, h3⟩ := hs.new_ok
  have hb := hs.bind (w' := w.drew.alloc (.cells (xs.toArray ++ Builtin.zeroCells z.cells (cap - need)) e)) (d := d) (n := n) (b := w.heap.size) (cap := cap) (B := ⟨e, sz, rows⟩) (row := none) ⟨rfl, rfl, rfl, by simp, fun k hk _ => heap_alloc_old w.drew _ hk⟩ (fun k e => by cases e)
    (.inl ⟨hob, _, heap_alloc_new w.drew _, by simp [hlen, hge], hcm, by simp only [Array.size_append, List.size_toArray, size_zeroCells, hzs, hx.len, hlen, ← Nat.add_mul]; congr 1; omega, hx.row, fun i j r c hi hj => ?_⟩) h1 h2 (fun m B' cap' _ _ h => h3 m B' cap' h)
  · have := hb.putSlc (d := d) hn (by simp only [St.bind]; rw [lk_cons, if_pos rfl]) (by exact hob) bindOwn_self
    simpa [hlen] using this
  · obtain ⟨v, k1, k2⟩ := hx.get i j r c hi hj
    refine ⟨v, ?_, k2⟩
    have hlt := (List.getElem?_eq_some_iff.1 k1).1
    rw [Array.getElem?_append_left (by simpa using hlt)]
    simpa using k1

/-- append to an own slice (or to nil). -/
theorem append_any {o : Oper} {t e d n : Nat} {x y : Operand} {ti te : TI} {sz : Nat} {rows rows2 : List (List Cell)} (ho : o.op = .call { callee := .builtin .append, args := #[x, y], argTypes := #[t, t] })
    (hd : o.dst = some d) (hn : d < A.n) (ht : T t = some ti) (hk : ti.kind = .slice e) (he : T e = some te) (hzl : te.zero.cells.length = te.sz) (hsz : te.sz = sz) (hz : 0 < sz)
    (hb : (rows.length + rows2.length) * te.bytes ≤ 140737488355328) (hb' : rows.length + rows2.length ≤ 140737488355328)
    (hs : Sat G Φ β A a w) (hx : (a.eval x = .slice none 0 0 ∧ rows = []) ∨ ∃ b cap, a.eval x = .slice (some ⟨b, 0, none⟩) rows.length cap ∧ BlkRel Φ w b cap ⟨e, sz, rows⟩ ∧ ¬ G.K b ∧ Φ b = none ∧ ∀ m B' cap', m ≠ d → m ≠ n → lk A.blks m = some B' → β m ≠ some (b, cap'))
    (hy : Src Φ w (a.eval y) sz rows2) :
    ∃ u w' Φ' β', (execOp a.eval o).run P w = .ok (.value u) w' ∧ Sat G Φ' β' ((A.bind d n ⟨e, sz, rows ++ rows2⟩).set d True (.slc d)) (a.put o.dst u) w' ∧ Φ.le Φ' := by
  have hu : P.underlying t = some (.slice e) := by have := (hT _ _ ht).kind; rw [hk] at this; exact this
  obtain ⟨i, hi, hisz, hib, z, hzz, hrel⟩ := (hT e te he).info
  have hzs : z.cells.size = sz := by have := (hrel Φ).cells.length; rw [← hsz, ← hzl, ← this]; simp
  have hml : rows.length + rows2.length ≤ maxLen := by unfold maxLen; omega
  have hi2 : i.size = sz := by rw [hisz, hsz]
  subst hi2
  rw [hd]
  have hob : Nat.ble mapTag e = false := (hT e te he).small
  have nilv : ∀ (E sz : Nat), lk (A.bind d n ⟨E, sz, []⟩).blks d = some ⟨E, sz, []⟩ := fun E sz => by simp only [St.bind]; rw [lk_cons, if_pos rfl]
  rcases hx with ⟨hxv, rfl⟩ | ⟨b, cap, hxv, hblk, hK, hP, hoth⟩
  · -- onto nothing
    rcases hy with ⟨hyv, rfl⟩ | ⟨ad, capy, ys, hyv, hys, hcells⟩
    · refine ⟨.slice none 0 0, w, Φ, _, appendcall_run ho ?_, (hs.bindNil (d := d) (n := n) (E := e) (sz := i.size)).putNil hn (nilv _ _) hob (by simp), Φ.le_refl⟩
      rw [hxv, hyv]
      exact run_append_owned_none w 0 t o.type e i i.size hu hi _ _ _ (World.ownsRow_nil w 0 e i.size)
    · by_cases hm : rows2.length = 0
      · have hr2 : rows2 = [] := List.eq_nil_of_length_eq_zero hm
        subst hr2
        obtain ⟨v', w', k1, k2, k3, k4⟩ := run_append_own (P := P) w 0 t o.type e i z i.size i.bytes hu hi hzz rfl rfl hzs hz _ _ _ (World.ownsRow_nil w 0 e i.size) ad 0 capy ys (by simpa using hys.len) hcells hys.oneCell (by simp [maxLen]) (by simp) (Nat.zero_le _)
        have hv' : v' = .slice none 0 0 := k4.2 ⟨rfl, rfl⟩
        subst hv'
        have hys0 : ys = [] := List.eq_nil_of_length_eq_zero (by simpa using hys.len)
        subst hys0
        have hrun : (Builtin.append_ #[t, t] o.type #[.slice none 0 0, .slice (some ad) 0 capy]).run P w = .ok (.slice none 0 0) w := by
          simp [Builtin.append_, run_underlying hu, Go.sizeOf, typeInfo, hi, Builtin.lenOf, Builtin.firstCells, loadCells, loadCellsFrom]
        refine ⟨.slice none 0 0, w, Φ, _, appendcall_run ho ?_, (hs.bindNil (d := d) (n := n) (E := e) (sz := i.size)).putNil hn (nilv _ _) hob (by simp), Φ.le_refl⟩
        rw [hxv, hyv]; exact hrun
      · have hr := run_append_nil (P := P) w t o.type e i z hu hi hzz ad rows2.length capy ys hys.len hcells (by omega) (by simp at hb'; omega) (by simp only [List.length_nil, Nat.zero_add] at hb; rw [hib]; omega)
        refine ⟨_, _, Φ, _, appendcall_run ho (by rw [hxv, hyv]; exact hr), append_new (te := te) hob hn hzs hs (by simpa using hys) (by simp) (grownCap_ge w _ _ _) (grownCap_le_maxLen w _ _ _ (by simpa using hml)), Φ.le_refl⟩
  · obtain ⟨xs, hown, hxs⟩ := hblk.owns hob
    simp only at hown hxs
    rcases hy with ⟨hyv, rfl⟩ | ⟨ad, capy, ys, hyv, hys, hcells⟩
    · have hb2 := hs.bind (w' := w) (d := d) (n := n) (b := b) (cap := cap) (B := ⟨e, i.size, rows⟩) (row := none) ⟨rfl, rfl, rfl, Nat.le_refl _, fun _ _ _ => rfl⟩ (fun k e => by cases e) hblk hK hP hoth
      have := hb2.putSlc (d := d) hn (by simp only [St.bind]; rw [lk_cons, if_pos rfl]) (by exact hob) bindOwn_self
      refine ⟨.slice (some ⟨b, 0, none⟩) rows.length cap, w, Φ, _, appendcall_run ho ?_, by simpa using this, Φ.le_refl⟩
      rw [hxv, hyv]
      exact run_append_owned_none w 0 t o.type e i i.size hu hi _ _ _ hown
    · by_cases hroom : rows.length + rows2.length ≤ cap
      · obtain ⟨w', k1, k2, k3⟩ := run_append_fits (P := P) w 0 t o.type e i i.size hu hi rfl b rows.length cap xs hown ad rows2.length capy ys hys.len hcells hys.oneCell hroom
        have hb2 := hs.bind (w' := w') (d := d) (n := n) (b := b) (cap := cap) (B := ⟨e, i.size, rows ++ rows2⟩) (row := some b) k3 (fun k e => by cases e; rfl) (BlkRel.of_owns k2 (hxs.append hys) (by simp) hob) hK hP hoth
        have := hb2.putSlc (d := d) hn (by simp only [St.bind]; rw [lk_cons, if_pos rfl]) (by exact hob) bindOwn_self
        exact ⟨_, w', Φ, _, appendcall_run ho (by rw [hxv, hyv]; exact k1), by simpa using this, Φ.le_refl⟩
      · have hr := run_append_grow (P := P) w t o.type e i z hu hi hzz ⟨b, 0, none⟩ rows.length cap xs hown.1 (hown.cells (g := b) rfl) ad rows2.length capy ys hys.len hcells (by omega) (by omega) (growslice_fits (by omega) (by rw [hib]; exact hb))
        have hnew := append_new (te := te) (d := d) (n := n) (e := e) (z := z) (cap := grownCap w (rows.length + rows2.length) cap e) hob hn hzs hs (hxs.append hys) (by simp) (grownCap_ge w _ _ _) (grownCap_le_maxLen w _ _ _ hml)
        have ea : (xs ++ ys).toArray = xs.toArray ++ ys.toArray := by simp
        rw [ea] at hnew
        exact ⟨_, _, Φ, _, appendcall_run ho (by rw [hxv, hyv]; exact hr), hnew, Φ.le_refl⟩

/-- append to an own slice: the old one is not looked at any more. -/
theorem E_append {o : Oper} {t e d n m : Nat} {x y : Operand} {ti te : TI} {B C : Blk} (ho : o.op = .call { callee := .builtin .append, args := #[x, y], argTypes := #[t, t] })
    (hd : o.dst = some d) (hn : d < A.n) (ht : T t = some ti) (hk : ti.kind = .slice e) (he : T e = some te) (hzl : te.zero.cells.length = te.sz) (hz : 0 < te.sz)
    (hx : Ev A True x (.slc n)) (hl : lk A.blks n = some B) (hE : B.E = e) (hsz : B.sz = te.sz)
    (hy : Ev A True y (.slc m)) (hm : lk A.blks m = some C) (hCsz : C.sz = te.sz) (hdm : d = n ∨ lk A.blks d = none ∨ d ≠ n)
    (hb : (B.rows.length + C.rows.length) * te.bytes ≤ 140737488355328) (hb' : B.rows.length + C.rows.length ≤ 140737488355328) :
    EffOp P G A o ((A.bind d n ⟨e, te.sz, B.rows ++ C.rows⟩).set d True (.slc d)) := EffOp.of_val fun Φ β a w hs => by
  obtain ⟨B', h1, hob, h2⟩ := hs.ev hx trivial
  obtain rfl : B = B' := by rw [hl] at h1; exact Option.some.inj h1
  have hsrc := src_own hs (hs.ev hy trivial) hm
  rw [hCsz] at hsrc
  refine append_any hT (n := n) ho hd hn ht hk he hzl rfl hz hb hb' hs ?_ hsrc
  rcases h2 with ⟨h2, h3⟩ | ⟨b, cap, h2, h3⟩
  · exact .inl ⟨h3, hs.vir n B hl h2⟩
  · obtain ⟨g1, g2, g3⟩ := hs.blk n B b cap hl h2
    refine .inr ⟨b, cap, h3, ?_, g2, g3, fun m' B' cap' e1 e2 q1 q2 => e2 (hs.inj m' n B' B b cap' cap q1 hl q2 h2)⟩
    obtain ⟨E', sz', rows'⟩ := B
    simp only at hE hsz
    subst hE hsz
    exact g1
theorem E_append_data {o : Oper} {t e d n : Nat} {x y : Operand} {ti te : TI} {B : Blk} {rows2 : List (List Cell)} (ho : o.op = .call { callee := .builtin .append, args := #[x, y], argTypes := #[t, t] })
    (hd : o.dst = some d) (hn : d < A.n) (ht : T t = some ti) (hk : ti.kind = .slice e) (he : T e = some te) (hzl : te.zero.cells.length = te.sz) (hz : 0 < te.sz)
    (hx : Ev A True x (.slc n)) (hl : lk A.blks n = some B) (hE : B.E = e) (hsz : B.sz = te.sz)
    (hy : Ev A True y (.pv (.one (.sl rows2)))) (hrows : ∀ r ∈ rows2, r.length = te.sz)
    (hb : (B.rows.length + rows2.length) * te.bytes ≤ 140737488355328) (hb' : B.rows.length + rows2.length ≤ 140737488355328) :
    EffOp P G A o ((A.bind d n ⟨e, te.sz, B.rows ++ rows2⟩).set d True (.slc d)) := EffOp.of_val fun Φ β a w hs => by
  obtain ⟨B', h1, hob, h2⟩ := hs.ev hx trivial
  obtain rfl : B = B' := by rw [hl] at h1; exact Option.some.inj h1
  refine append_any hT (n := n) ho hd hn ht hk he hzl rfl hz hb hb' hs ?_ (src_data hs.fits (hs.ev hy trivial) hrows hz)
  rcases h2 with ⟨h2, h3⟩ | ⟨b, cap, h2, h3⟩
  · exact .inl ⟨h3, hs.vir n B hl h2⟩
  · obtain ⟨g1, g2, g3⟩ := hs.blk n B b cap hl h2
    refine .inr ⟨b, cap, h3, ?_, g2, g3, fun m' B' cap' e1 e2 q1 q2 => e2 (hs.inj m' n B' B b cap' cap q1 hl q2 h2)⟩
    obtain ⟨E', sz', rows'⟩ := B
    simp only at hE hsz
    subst hE hsz
    exact g1
/-- append to the nil slice. -/
theorem E_append_nil {o : Oper} {t e d m : Nat} {x y : Operand} {ti te : TI} {C : Blk} (ho : o.op = .call { callee := .builtin .append, args := #[x, y], argTypes := #[t, t] })
    (hd : o.dst = some d) (hn : d < A.n) (ht : T t = some ti) (hk : ti.kind = .slice e) (he : T e = some te) (hzl : te.zero.cells.length = te.sz) (hz : 0 < te.sz)
    (hx : Ev A True x (.pv (.one .slnil))) (hy : Ev A True y (.slc m)) (hm : lk A.blks m = some C) (hCsz : C.sz = te.sz)
    (hb : C.rows.length * te.bytes ≤ 140737488355328) (hb' : C.rows.length ≤ 140737488355328) :
    EffOp P G A o ((A.bind d d ⟨e, te.sz, C.rows⟩).set d True (.slc d)) := EffOp.of_val fun Φ β a w hs => by
  have hr : Rel Φ (a.eval x) .slnil := hs.ev hx trivial
  have hsrc := src_own hs (hs.ev hy trivial) hm
  rw [hCsz] at hsrc
  have := append_any hT (n := d) (rows := []) ho hd hn ht hk he hzl rfl hz (by simpa using hb) (by simpa using hb') hs (.inl ⟨by cases hv : a.eval x <;> rw [hv] at hr <;> cases hr; rfl, rfl⟩) hsrc
  simpa using this

/-- make([]T, n). -/
theorem E_make {o : Oper} {t e d : Nat} {x y : Operand} {kx ky : IntKind} {m c : Int} {ti te : TI} (ho : o.op = .makeSlice t x y) (hd : o.dst = some d) (hn : d < A.n) (ht : T t = some ti) (hk : ti.kind = .slice e) (he : T e = some te)
    (hzl : te.zero.cells.length = te.sz) (hx : Ev A True x (.pv (.one (.int kx m)))) (hy : Ev A True y (.pv (.one (.int ky c)))) (h0 : 0 ≤ m) (hmc : m ≤ c) (hc : c * te.bytes ≤ 281474976710656) (hc' : c ≤ 281474976710656) :
    EffOp P G A o ((A.bind d d ⟨e, te.sz, List.replicate m.toNat te.zero.cells⟩).set d True (.slc d)) := EffOp.of_val fun Φ β a w hs => by
  have hu : P.underlying t = some (.slice e) := by have := (hT _ _ ht).kind; rw [hk] at this; exact this
  obtain ⟨i, hi, hisz, hib, z, hzz, hrel⟩ := (hT e te he).info
  have hzr := (hrel Φ).cells
  have hzs : z.cells.size = te.sz := by have := hzr.length; rw [← hzl, ← this]; simp
  have hr := run_make (P := P) w t e i z hu hi hzz kx ky m c h0 hmc (by rw [hib, Int.mul_comm]; exact hc) (by omega)
  have hrun : (execOp a.eval o).run P w = .ok (.value (.slice (some ⟨w.heap.size, 0, none⟩) m.toNat c.toNat)) (w.alloc (.cells (madeCells z.cells (c.toNat * i.size)) e)) :=
    exec_val (m := Instr.makeSlice t (a.eval x) (a.eval y)) (by simp only [execOp, ho]) (by rw [AVRel.int (hs.ev hx trivial), AVRel.int (hs.ev hy trivial)]; exact hr)
  refine ⟨_, _, Φ, bindOwn β d d w.heap.size c.toNat, hrun, ?_, Φ.le_refl⟩
  rw [hd]
  have hob : Nat.ble mapTag e = false := (hT e te he).small
  have hall := hs.alloc (d := d) (cap := c.toNat) (B := ⟨e, te.sz, List.replicate m.toNat te.zero.cells⟩) (cur := madeCells z.cells (c.toNat * i.size)) hob (by simp [size_madeCells, hisz]) (by simp; omega) (by unfold maxLen; omega)
    (fun r hr => by rw [List.eq_of_mem_replicate hr]; exact hzl) (fun k j r x hk hj => ?_)
  · have := hall.putSlc (d := d) hn (by simp only [St.bind]; rw [lk_cons, if_pos rfl]) (by exact hob) bindOwn_self
    simpa using this
  · simp only [List.getElem?_replicate] at hk
    split at hk
    · rename_i hlt
      obtain rfl := Option.some.inj hk
      obtain ⟨v, q1, q2⟩ := relL_get' hzr hj
      refine ⟨v, ?_, q2⟩
      have hjl : j < te.sz := by rw [← hzl]; exact (List.getElem?_eq_some_iff.1 hj).1
      have hlt2 : k * te.sz + j < c.toNat * i.size := by rw [hisz]; exact idx_lt (by omega) hjl
      have hmod : (k * te.sz + j) % te.sz = j := by rw [Nat.mul_comm, Nat.mul_add_mod, Nat.mod_eq_of_lt hjl]
      have hjz : j < z.cells.size := by omega
      simp only [madeCells, Array.getElem?_map, Array.getElem?_range, hlt2, if_true, Option.map_some, hzs, hmod]
      rw [Array.getElem?_eq_getElem hjz] at q1
      simp only [Option.some.injEq] at q1
      rw [getElem!_pos z.cells j hjz, q1]
    · cases hk
end
end Lf
