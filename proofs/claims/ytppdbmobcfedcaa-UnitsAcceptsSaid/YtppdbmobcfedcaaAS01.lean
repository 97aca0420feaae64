/-
  Part 1 of what the proof rests on.
-/
import Derived.WalkKit
section
set_option linter.unusedVariables false
namespace Lf
open Go
/-- One cell of data. -/
inductive Cell where
  | int (k : IntKind) (n : Int)
  | bool (b : Bool)
  | str (s : List UInt8)
  | slnil
  | sl (rows : List (List Cell))
  | nilp
  | ptr (cs : List Cell)
  | nilf
  | fn (f : Nat) (caps : List Cell)
  | nilm
  | nili
  | iface (t : Nat) (cs : List Cell)
  | sla (b len cap : Nat)
  | mpa (b : Nat)
  | unk
  deriving Inhabited
abbrev Frz := Nat → Option (Array Value)
/-- What a value reads as1, over memory that does not turn any more. -/
inductive Rel (Φ : Frz) : Value → Cell → Prop
  | int (k : IntKind) (n : Int) : Rel Φ (.int k n) (.int k n)
  | bool (b : Bool) : Rel Φ (.bool b) (.bool b)
  | str (s : ByteArray) : Rel Φ (.string s) (.str s.data.toList)
  | slnil : Rel Φ (.slice none 0 0) .slnil
  | sl0 : Rel Φ (.slice none 0 0) (.sl [])
  | slE (a : Addr) (cap : Nat) : Rel Φ (.slice (some a) 0 cap) (.sl [])
  | sl (b off len cap sz : Nat) (rows : List (List Cell)) (f : Nat → Nat → Value) (hlen : rows.length = len) (hcap : len ≤ cap) (hsz : ∀ r ∈ rows, r.length = sz)
      (hc : ∀ i j r c, rows[i]? = some r → r[j]? = some c → (Φ b).bind (·[off + (i * sz + j)]?) = some (f i j))
      (hr : ∀ i j r c, rows[i]? = some r → r[j]? = some c → Rel Φ (f i j) c) : Rel Φ (.slice (some ⟨b, off, none⟩) len cap) (.sl rows)
  | nilp : Rel Φ (.pointer none) .nilp
  | ptr (b off : Nat) (cs : List Cell) (f : Nat → Value)
      (hc : ∀ j c, cs[j]? = some c → (Φ b).bind (·[off + j]?) = some (f j))
      (hr : ∀ j c, cs[j]? = some c → Rel Φ (f j) c) : Rel Φ (.pointer (some ⟨b, off, none⟩)) (.ptr cs)
  | nilf : Rel Φ .nilFunc .nilf
  | fn (f : Nat) (caps : List Cell) (vs : Array Value) (g : Nat → Value) (hlen : vs.size = caps.length)
      (hc : ∀ j c, caps[j]? = some c → vs[j]? = some (g j))
      (hr : ∀ j c, caps[j]? = some c → Rel Φ (g j) c) : Rel Φ (.func (.func f) #[] vs) (.fn f caps)
  | nilm : Rel Φ (.map none) .nilm
  | nili : Rel Φ .nilIface .nili
  | iface1 (t : Nat) (v : Value) (c : Cell) (hv : Rel Φ v c) : Rel Φ (.iface t v) (.iface t [c])
  | sla (b len cap : Nat) : Rel Φ (.slice (some ⟨b, 0, none⟩) len cap) (.sla b len cap)
  | mpa (b : Nat) : Rel Φ (.map (some b)) (.mpa b)
  | ifaceN (t : Nat) (vs : Array Value) (cs : List Cell) (g : Nat → Value) (hlen : vs.size = cs.length) (h2 : 2 ≤ cs.length)
      (hc : ∀ j c, cs[j]? = some c → vs[j]? = some (g j))
      (hr : ∀ j c, cs[j]? = some c → Rel Φ (g j) c) : Rel Φ (.iface t (.agg vs)) (.iface t cs)
  | unk (v : Value) (h1 : v.cells = #[v]) (h2 : v.oneCell' = true) : Rel Φ v .unk
def Frz.le (Φ Φ' : Frz) : Prop := ∀ b c, Φ b = some c → Φ' b = some c
theorem Frz.le_refl (Φ : Frz) : Φ.le Φ := fun _ _ h => h
theorem Frz.le_trans {Φ Φ' Φ'' : Frz} (h : Φ.le Φ') (h' : Φ'.le Φ'') : Φ.le Φ'' := fun b c e => h' b c (h b c e)
theorem Rel.mono {Φ Φ' : Frz} (hle : Φ.le Φ') {v : Value} {c : Cell} (h : Rel Φ v c) : Rel Φ' v c := by
  have bd : ∀ b (k : Nat) (u : Value), (Φ b).bind (·[k]?) = some u → (Φ' b).bind (·[k]?) = some u := by
    intro b k u h
    cases hb : Φ b with
    | none => simp [hb] at h
    | some cs => rw [hb] at h; rw [hle b cs hb]; exact h
  induction h with
  | int k n => exact .int k n
  | bool b => exact .bool b
  | str s => exact .str s
  | slnil => exact .slnil
  | sl0 => exact .sl0
  | slE a cap => exact .slE a cap
  | sl b off len cap sz rows f hlen hcap hsz hc _ ih =>
    exact .sl b off len cap sz rows f hlen hcap hsz (fun i j r c h1 h2 => bd _ _ _ (hc i j r c h1 h2)) ih
  | nilp => exact .nilp
  | ptr b off cs f hc _ ih => exact .ptr b off cs f (fun j c h => bd _ _ _ (hc j c h)) ih
  | nilf => exact .nilf
  | fn f caps vs g hlen hc _ ih => exact .fn f caps vs g hlen hc ih
  | nilm => exact .nilm
  | nili => exact .nili
  | iface1 t v c _ ih => exact .iface1 t v c ih
  | sla b len cap => exact .sla b len cap
  | mpa b => exact .mpa b
  | ifaceN t vs cs g hlen h2 hc _ ih => exact .ifaceN t vs cs g hlen h2 hc ih
  | unk v h1 h2 => exact .unk v h1 h2
theorem Rel.one {Φ : Frz} {v : Value} {c : Cell} (h : Rel Φ v c) : v.cells = #[v] ∧ v.oneCell' = true := by
  cases h <;> first | exact ⟨rfl, rfl⟩ | exact ⟨by assumption, by assumption⟩
/-- Cells without an address: they say all of the value. -/
def Cell.flat : Cell → Bool
  | .int .. | .bool _ | .str _ | .slnil | .nilp | .nilf | .nilm | .nili | .sla .. | .mpa _ | .unk => true
  | _ => false
theorem Rel.flat {Φ Φ' : Frz} {v : Value} {c : Cell} (h : Rel Φ v c) (hf : c.flat = true) : Rel Φ' v c := by
  cases h <;> (first | (cases hf; done) | exact .int _ _ | exact .bool _ | exact .str _ | exact .slnil | exact .nilp | exact .nilf | exact .nilm | exact .nili | exact .sla _ _ _ | exact .mpa _ | exact .unk _ (by assumption) (by assumption))
/-- Lists of cells. -/
def RelL (Φ : Frz) : List Value → List Cell → Prop
  | [], [] => True
  | v :: vs, c :: cs => Rel Φ v c ∧ RelL Φ vs cs
  | _, _ => False
theorem RelL.length {Φ : Frz} : ∀ {vs : List Value} {cs : List Cell}, RelL Φ vs cs → vs.length = cs.length
  | [], [], _ => rfl
  | _ :: _, _ :: _, h => by simp [RelL.length h.2]
theorem RelL.get {Φ : Frz} : ∀ {vs : List Value} {cs : List Cell}, RelL Φ vs cs → ∀ {j : Nat} {c : Cell}, cs[j]? = some c → ∃ v, vs[j]? = some v ∧ Rel Φ v c
  | [], [], _, j, c, h => by simp at h
  | v :: vs, d :: cs, h, 0, c, hc => ⟨v, rfl, by simp at hc; exact hc ▸ h.1⟩
  | v :: vs, d :: cs, h, j + 1, c, hc => by simpa using RelL.get h.2 (by simpa using hc)
theorem RelL.of_get {Φ : Frz} : ∀ {vs : List Value} {cs : List Cell}, vs.length = cs.length → (∀ (j : Nat) (c : Cell), cs[j]? = some c → ∃ v, vs[j]? = some v ∧ Rel Φ v c) → RelL Φ vs cs
  | [], [], _, _ => trivial
  | [], _ :: _, h, _ => by simp at h
  | _ :: _, [], h, _ => by simp at h
  | v :: vs, c :: cs, h, hg => ⟨by obtain ⟨u, h1, h2⟩ := hg 0 c rfl; simp at h1; exact h1 ▸ h2, RelL.of_get (by simpa using h) (fun j d hd => by simpa using hg (j + 1) d (by simpa using hd))⟩
theorem RelL.mono {Φ Φ' : Frz} (hle : Φ.le Φ') : ∀ {vs : List Value} {cs : List Cell}, RelL Φ vs cs → RelL Φ' vs cs
  | [], [], _ => trivial
  | _ :: _, _ :: _, h => ⟨h.1.mono hle, RelL.mono hle h.2⟩
theorem RelL.append {Φ : Frz} : ∀ {vs us : List Value} {cs ds : List Cell}, RelL Φ vs cs → RelL Φ us ds → RelL Φ (vs ++ us) (cs ++ ds)
  | [], _, [], _, _, h => h
  | _ :: _, _, _ :: _, _, h, h' => ⟨h.1, RelL.append h.2 h'⟩
theorem RelL.oneCell {Φ : Frz} : ∀ {vs : List Value} {cs : List Cell}, RelL Φ vs cs → ∀ u ∈ vs, u.oneCell' = true
  | [], [], _, u, hu => by cases hu
  | _ :: _, _ :: _, h, u, hu => by
    cases hu with
    | head => exact h.1.one.2
    | tail _ hm => exact RelL.oneCell h.2 u hm
theorem RelL.flat {Φ Φ' : Frz} : ∀ {vs : List Value} {cs : List Cell}, RelL Φ vs cs → cs.all Cell.flat = true → RelL Φ' vs cs
  | [], [], _, _ => trivial
  | _ :: _, _ :: _, h, hf => by
    simp only [List.all_cons, Bool.and_eq_true] at hf
    exact ⟨h.1.flat hf.1, RelL.flat h.2 hf.2⟩
/-- A value of one cell, or of a struct or an array. -/
inductive PV where
  | one (c : Cell)
  | agg (cs : List Cell)
  deriving Inhabited
def PV.cells : PV → List Cell
  | .one c => [c]
  | .agg cs => cs
def PV.flat : PV → Bool
  | .one c => c.flat
  | .agg cs => cs.all Cell.flat
def PRel (Φ : Frz) (v : Value) : PV → Prop
  | .one c => Rel Φ v c
  | .agg cs => ∃ arr : Array Value, v = .agg arr ∧ RelL Φ arr.toList cs
theorem PRel.mono {Φ Φ' : Frz} (hle : Φ.le Φ') {v : Value} {p : PV} (h : PRel Φ v p) : PRel Φ' v p := by
  cases p with
  | one c => exact Rel.mono hle h
  | agg cs => obtain ⟨arr, rfl, h⟩ := h; exact ⟨arr, rfl, h.mono hle⟩
theorem PRel.flat {Φ Φ' : Frz} {v : Value} {p : PV} (h : PRel Φ v p) (hf : p.flat = true) : PRel Φ' v p := by
  cases p with
  | one c => exact Rel.flat h hf
  | agg cs => obtain ⟨arr, rfl, h⟩ := h; exact ⟨arr, rfl, h.flat hf⟩
theorem PRel.cells {Φ : Frz} {v : Value} {p : PV} (h : PRel Φ v p) : RelL Φ v.cells.toList p.cells := by
  cases p with
  | one c => have := (Rel.one h).1; simp only [this, PV.cells]; exact ⟨h, trivial⟩
  | agg cs => obtain ⟨arr, rfl, h⟩ := h; exact h
/-- A block that the call owns: rows of cells. -/
structure Blk where
  E : Nat
  sz : Nat
  rows : List (List Cell)
/-- What a slot holds: data; results of a call; a pointer into an own block; an own slice. -/
inductive AV where
  | pv (p : PV)
  | tup (l : List PV)
  | addr (n i off : Nat)
  | slc (n : Nat)
  | mp (n : Nat)
  | mpn (n b : Nat)
  | itr (d n : Nat)
  | pin (n b c : Nat) (f : Nat → Value)
  | top
def mapTag : Nat := 4294967296
def iterTag : Nat := 4294967297
/-- no block of cells, but a map or an iterator -/
def Blk.ob (B : Blk) : Bool := Nat.ble mapTag B.E
def lk {α : Type _} : List (Nat × α) → Nat → Option α
  | [], _ => none
  | (k, a) :: r, t => bif Nat.beq k t then some a else lk r t
theorem lk_cons {α : Type _} (k : Nat) (a : α) (r : List (Nat × α)) (t : Nat) : lk ((k, a) :: r) t = if k = t then some a else lk r t := by
  simp only [lk]
  by_cases h : k = t
  · subst h; simp
  · rw [if_neg h]
    have : Nat.beq k t = false := by
      cases hb : Nat.beq k t with
      | false => rfl
      | true => exact absurd (Nat.eq_of_beq_eq_true hb) h
    rw [this]; rfl
structure St where
  n : Nat
  env : List (Nat × (Prop × AV))
  blks : List (Nat × Blk)
def St.set (A : St) (t : Nat) (q : Prop) (v : AV) : St := { A with env := (t, (q, v)) :: A.env }
abbrev Own := Nat → Option (Nat × Nat)
def AVRel (Φ : Frz) (β : Own) (bl : List (Nat × Blk)) (v : Value) : AV → Prop
  | .pv p => PRel Φ v p
  | .tup l => ∃ arr : Array Value, v = .tuple arr ∧ arr.size = l.length ∧ ∀ (j : Nat) (p : PV), l[j]? = some p → ∃ u, arr[j]? = some u ∧ PRel Φ u p
  | .addr n i off => ∃ b cap B, β n = some (b, cap) ∧ lk bl n = some B ∧ B.ob = false ∧ v = .pointer (some ⟨b, i * B.sz + off, none⟩)
  | .slc n => ∃ B, lk bl n = some B ∧ B.ob = false ∧ ((β n = none ∧ v = .slice none 0 0) ∨ ∃ b cap, β n = some (b, cap) ∧ v = .slice (some ⟨b, 0, none⟩) B.rows.length cap)
  | .mp n => ∃ b cap B, β n = some (b, cap) ∧ lk bl n = some B ∧ B.E = mapTag ∧ v = .map (some b)
  | .mpn n b' => ∃ b cap B, β n = some (b, cap) ∧ lk bl n = some B ∧ B.E = mapTag ∧ b = b'
  | .itr d n => ∃ b cap B M c, β d = some (b, cap) ∧ lk bl d = some B ∧ B.E = iterTag ∧ β n = some (B.sz, c) ∧ lk bl n = some M ∧ M.E = mapTag ∧ M.rows.length = cap ∧ v = .pointer (some ⟨b, 0, none⟩)
  | .pin n b c f => ∃ B, β n = some (b, c) ∧ lk bl n = some B ∧ B.ob = false ∧ v = f B.rows.length
  | .top => True
theorem AVRel.mono {Φ Φ' : Frz} (hle : Φ.le Φ') {β : Own} {bl : List (Nat × Blk)} {v : Value} {x : AV} (h : AVRel Φ β bl v x) : AVRel Φ' β bl v x := by
  cases x with
  | pv p => exact PRel.mono hle h
  | tup l => obtain ⟨arr, h1, h2, h3⟩ := h; exact ⟨arr, h1, h2, fun j p hp => let ⟨u, a, b⟩ := h3 j p hp; ⟨u, a, b.mono hle⟩⟩
  | addr n i off => exact h
  | slc n => exact h
  | mp n => exact h
  | mpn n bb => exact h
  | itr d n => exact h
  | pin n b c f => exact h
  | top => trivial
theorem ob_map {B : Blk} (h : B.E = mapTag) : B.ob = true := by unfold Blk.ob; rw [h]; rfl
theorem ob_iter {B : Blk} (h : B.E = iterTag) : B.ob = true := by unfold Blk.ob; rw [h]; rfl
/-- A block of cells. -/
def CellRel (Φ : Frz) (w : World) (b cap : Nat) (B : Blk) : Prop :=
  ∃ cur : Array Value, w.heap[b]? = some (.cells cur B.E (0, 0)) ∧ B.rows.length ≤ cap ∧ cap ≤ maxLen ∧ cur.size = cap * B.sz ∧ (∀ r ∈ B.rows, r.length = B.sz) ∧
    ∀ (i j : Nat) (r : List Cell) (x : Cell), B.rows[i]? = some r → r[j]? = some x → ∃ v, cur[i * B.sz + j]? = some v ∧ Rel Φ v x
/-- An entry's value: one cell where the block's size says 0, else a struct. -/
def mapPV (sz : Nat) (vs : List Cell) : PV := bif Nat.beq sz 0 then .one (vs.headD .nilp) else .agg vs
/-- A map (its entries in the order in which they came; none is ever taken out), or an iterator over one (the places of the entries that it has shown). -/
def ObjRel (Φ : Frz) (w : World) (b cap : Nat) (B : Blk) : Prop :=
  (B.E = mapTag ∧ ∃ es : Array MapEntry, w.heap[b]? = some (.map es es.size) ∧ es.size = B.rows.length ∧ ∀ (i : Nat) (e : MapEntry) (r : List Cell), es[i]? = some e → B.rows[i]? = some r → e.born = i ∧ ∃ k vs, r = k :: vs ∧ Rel Φ e.key k ∧ PRel Φ e.val (mapPV B.sz vs)) ∨
  (B.E = iterTag ∧ ∃ seen : Array Nat, w.heap[b]? = some (.mapIter (some B.sz) cap seen cap) ∧ B.rows = seen.toList.map fun (i : Nat) => [Cell.int .i64 (i : Int)])
def BlkRel (Φ : Frz) (w : World) (b cap : Nat) (B : Blk) : Prop := (B.ob = false ∧ CellRel Φ w b cap B) ∨ (B.ob = true ∧ ObjRel Φ w b cap B)
theorem BlkRel.cells {Φ : Frz} {w : World} {b cap : Nat} {B : Blk} (h : BlkRel Φ w b cap B) (ho : B.ob = false) : CellRel Φ w b cap B := by
  rcases h with ⟨_, h⟩ | ⟨h, _⟩
  · exact h
  · rw [ho] at h; cases h
theorem BlkRel.ex {Φ : Frz} {w : World} {b cap : Nat} {B : Blk} (h : BlkRel Φ w b cap B) : ∃ o, w.heap[b]? = some o := by
  rcases h with ⟨_, cur, h, _⟩ | ⟨_, ⟨_, es, h, _⟩ | ⟨_, seen, h, _⟩⟩ <;> exact ⟨_, h⟩
theorem BlkRel.keep {Φ Φ' : Frz} {w w' : World} {b cap : Nat} {B : Blk} (h : BlkRel Φ w b cap B) (hle : Φ.le Φ') (hh : w'.heap[b]? = w.heap[b]?) : BlkRel Φ' w' b cap B := by
  rcases h with ⟨ho, cur, h1, h2, h3, h4, h5, h6⟩ | ⟨ho, ⟨hE, es, h1, h2, h3⟩ | ⟨hE, seen, h1, h2⟩⟩
  · exact .inl ⟨ho, cur, hh.trans h1, h2, h3, h4, h5, fun i j r x hi hj => let ⟨v, a, c⟩ := h6 i j r x hi hj; ⟨v, a, c.mono hle⟩⟩
  · exact .inr ⟨ho, .inl ⟨hE, es, hh.trans h1, h2, fun i e r a b => let ⟨c1, k, vs, c2, c3, c4⟩ := h3 i e r a b; ⟨c1, k, vs, c2, c3.mono hle, c4.mono hle⟩⟩⟩
  · exact .inr ⟨ho, .inr ⟨hE, seen, hh.trans h1, h2⟩⟩
/-- The world in which the call began, and the blocks that it must leave as1 they were. -/
structure Ghost where
  w0 : World
  K : Nat → Prop
  F0 : Frz
  lt : ∀ b, K b → b < w0.heap.size
  D : List Deferred := []
structure Kept (G : Ghost) (w : World) : Prop where
  os : w.os = G.w0.os
  tape : w.tape = G.w0.tape
  output : w.output = G.w0.output
  size : G.w0.heap.size ≤ w.heap.size
  block : ∀ b, G.K b → w.heap[b]? = G.w0.heap[b]?
def Fits (Φ : Frz) (w : World) : Prop := ∀ b c, Φ b = some c → ∃ E fz, w.heap[b]? = some (.cells c E fz)
structure Sat (G : Ghost) (Φ : Frz) (β : Own) (A : St) (a : Act) (w : World) : Prop where
  kept : Kept G w
  fits : Fits Φ w
  old : ∀ b, G.K b → Φ b = G.F0 b
  siz : A.n ≤ a.tmps.size
  dfr : a.defers = G.D
  env : ∀ t q v, lk A.env t = some (q, v) → (q → AVRel Φ β A.blks (a.tmps.getD t undef) v) ∧ (¬ q → a.tmps.getD t undef = undef)
  blk : ∀ n B b cap, lk A.blks n = some B → β n = some (b, cap) → BlkRel Φ w b cap B ∧ ¬ G.K b ∧ Φ b = none
  vir : ∀ n B, lk A.blks n = some B → β n = none → B.rows = []
  inj : ∀ n n' B B' b cap cap', lk A.blks n = some B → lk A.blks n' = some B' → β n = some (b, cap) → β n' = some (b, cap') → n = n'
/-- THE JUDGEMENT: from every state of the machine that fits A the code comes to an exit and a state that Q takes. -/
def W (P : Program) (G : Ghost) (c : Code) (Q : Exit → St → Prop) (A : St) : Prop :=
  ∀ Φ β a w, Sat G Φ β A a w → c.wp P (fun e a' w' => ∃ A' Φ' β', Q e A' ∧ Sat G Φ' β' A' a' w' ∧ Φ.le Φ') a w
def Le (A B : St) : Prop := ∀ G Φ β a w, Sat G Φ β A a w → ∃ Φ' β', Φ.le Φ' ∧ Sat G Φ' β' B a w
section rules
variable {P : Program} {G : Ghost} {Q : Exit → St → Prop} {A : St}
theorem W.skip (h : Q .normal A) : W P G .skip Q A := fun Φ β a w hs => wp_skip ⟨A, Φ, β, h, hs, Φ.le_refl⟩
theorem W.ret (h : Q .ret A) : W P G .ret Q A := fun Φ β a w hs => wp_ret ⟨A, Φ, β, h, hs, Φ.le_refl⟩
theorem W.exit {id : Nat} (h : Q (.exit id) A) : W P G (.exit id) Q A := fun Φ β a w hs => wp_exit ⟨A, Φ, β, h, hs, Φ.le_refl⟩
def Then (K : St → Prop) (Q : Exit → St → Prop) : Exit → St → Prop
  | .normal, A => K A
  | e, A => Q e A
theorem W.seq {x y : Code} (h : W P G x (Then (W P G y Q) Q) A) : W P G (.seq x y) Q A := fun Φ β a w hs =>
  wp_seq (wp_mono (h Φ β a w hs) fun e a1 w1 ⟨A1, Φ1, β1, q, s, l⟩ => by
    cases e with
    | normal => exact wp_mono (q Φ1 β1 a1 w1 s) fun e2 a2 w2 ⟨A2, Φ2, β2, q2, s2, l2⟩ => ⟨A2, Φ2, β2, q2, s2, Frz.le_trans l l2⟩
    | exit id => exact ⟨A1, Φ1, β1, q, s, l⟩
    | goto id => exact ⟨A1, Φ1, β1, q, s, l⟩
    | ret => exact ⟨A1, Φ1, β1, q, s, l⟩
    | panic c => exact ⟨A1, Φ1, β1, q, s, l⟩
    | outgrown => exact ⟨A1, Φ1, β1, q, s, l⟩)
theorem W.mono {c : Code} {Q' : Exit → St → Prop} (h : W P G c Q A) (hq : ∀ e A, Q e A → Q' e A) : W P G c Q' A := fun Φ β a w hs =>
  wp_mono (h Φ β a w hs) fun _ _ _ ⟨A', Φ', β', q, r⟩ => ⟨A', Φ', β', hq _ _ q, r⟩
theorem W.weaken {c : Code} {B : St} (hl : Le A B) (h : W P G c Q B) : W P G c Q A := fun Φ β a w hs =>
  let ⟨Φ1, β', hle, hs'⟩ := hl G Φ β a w hs
  wp_mono (h Φ1 β' a w hs') fun _ _ _ ⟨A', Φ', β', q, r, l⟩ => ⟨A', Φ', β', q, r, Frz.le_trans hle l⟩
def InBlock (id : Nat) (Q : Exit → St → Prop) : Exit → St → Prop
  | .exit i, A => if i = id then Q .normal A else Q (.exit i) A
  | e, A => Q e A
theorem W.block {id : Nat} {c : Code} (h : W P G c (InBlock id Q) A) : W P G (.block id c) Q A := fun Φ β a w hs =>
  wp_block (wp_mono (h Φ β a w hs) fun e a1 w1 ⟨A1, Φ1, β1, q, s, l⟩ => by
    cases e with
    | exit i =>
      simp only [Exit.inBlock]
      simp only [InBlock] at q
      split <;> rename_i hi
      · rw [if_pos hi] at q; exact ⟨A1, Φ1, β1, q, s, l⟩
      · rw [if_neg hi] at q; exact ⟨A1, Φ1, β1, q, s, l⟩
    | normal => exact ⟨A1, Φ1, β1, q, s, l⟩
    | goto id => exact ⟨A1, Φ1, β1, q, s, l⟩
    | ret => exact ⟨A1, Φ1, β1, q, s, l⟩
    | panic c => exact ⟨A1, Φ1, β1, q, s, l⟩
    | outgrown => exact ⟨A1, Φ1, β1, q, s, l⟩)
/-- A LOOP: a family of states, a measure. -/
theorem W.loop {σ : Type _} {c : Code} (I : σ → St) (μ : σ → Nat) (s0 : σ) (h0 : Le A (I s0))
    (round : ∀ s, W P G c (Then (fun A' => ∃ s', Le A' (I s') ∧ μ s' < μ s) Q) (I s)) : W P G (.loop c) Q A := by
  intro Φ β a w hs b k cs
  obtain ⟨Φ0, β0, hle0, hs0⟩ := h0 G Φ β a w hs
  have key : ∀ (n : Nat) (s : σ), μ s = n → ∀ Φ β a w, Sat G Φ β (I s) a w →
      ∃ e a' w', (∃ A' Φ' β', Q e A' ∧ Sat G Φ' β' A' a' w' ∧ Φ.le Φ') ∧ Arrives P (lone (b.at a (.code c :: .inLoop c :: k)) cs w) b k cs e a' w' := by
    intro n
    induction n using Nat.strongRecOn with
    | _ n ih =>
      intro s hn Φ β a w hs
      obtain ⟨e, a1, w1, ⟨A1, Φ1, β1, q, s1, l1⟩, harr⟩ := round s Φ β a w hs b (.inLoop c :: k) cs
      cases e with
      | normal =>
        obtain ⟨s', hle, hlt⟩ := q
        obtain ⟨Φ2, β2, hle2, hs2⟩ := hle G Φ1 β1 a1 w1 s1
        obtain ⟨e2, a2, w2, ⟨A2, Φ3, β2', q2, s2, l2⟩, harr2⟩ := ih (μ s') (hn ▸ hlt) s' rfl Φ2 β2 a1 w1 hs2
        exact ⟨e2, a2, w2, ⟨A2, Φ3, β2', q2, s2, Frz.le_trans l1 (Frz.le_trans hle2 l2)⟩, .of_steps (Steps.trans harr (.one step_inLoop)) harr2⟩
      | exit id => exact ⟨_, a1, w1, ⟨A1, Φ1, β1, q, s1, l1⟩, .pass (x := .inLoop c) rfl (fun _ _ => .inl (by simp)) harr⟩
      | goto l => exact ⟨_, a1, w1, ⟨A1, Φ1, β1, q, s1, l1⟩, .pass (x := .inLoop c) rfl (fun _ _ => .inl (by simp)) harr⟩
      | ret => exact ⟨_, a1, w1, ⟨A1, Φ1, β1, q, s1, l1⟩, .pass (x := .inLoop c) rfl (fun _ _ => .inl (by simp)) harr⟩
      | panic ch => exact ⟨_, a1, w1, ⟨A1, Φ1, β1, q, s1, l1⟩, .pass (x := .inLoop c) rfl (fun _ _ => .inl (by simp)) harr⟩
      | outgrown => exact ⟨_, a1, w1, ⟨A1, Φ1, β1, q, s1, l1⟩, .pass (x := .inLoop c) rfl (fun _ _ => .inl (by simp)) harr⟩
  obtain ⟨e, a', w', ⟨A', Φ', β', q, r, l⟩, harr⟩ := key _ s0 rfl Φ0 β0 a w hs0
  exact ⟨e, a', w', ⟨A', Φ', β', q, r, Frz.le_trans hle0 l⟩, .of_steps (.one step_loop) harr⟩
/-- A constant of the code. -/
def cst : Value → Option AV
  | .int k n => some (.pv (.one (.int k n)))
  | .bool b => some (.pv (.one (.bool b)))
  | .string s => some (.pv (.one (.str s.data.toList)))
  | .slice none 0 0 => some (.pv (.one .slnil))
  | .pointer none => some (.pv (.one .nilp))
  | .nilFunc => some (.pv (.one .nilf))
  | .map none => some (.pv (.one .nilm))
  | .nilIface => some (.pv (.one .nili))
  | _ => none
def St.opd (A : St) : Operand → Option (Prop × AV)
  | .tmp t => lk A.env t
  | .const v => (cst v).map fun x => (True, x)
  | .func f => some (True, .pv (.one (.fn f [])))
  | .global _ => none
theorem cst_rel {Φ : Frz} {β : Own} {bl : List (Nat × Blk)} {v : Value} {x : AV} (h : cst v = some x) : AVRel Φ β bl v x := by
  unfold cst at h
  split at h <;> simp at h <;> subst h <;> first | exact Rel.int _ _ | exact Rel.bool _ | exact Rel.str _ | exact Rel.slnil | exact Rel.nilp | exact Rel.nilf | exact Rel.nilm | exact Rel.nili
theorem Sat.opd {Φ : Frz} {β : Own} {a : Act} {w : World} (hs : Sat G Φ β A a w) {x : Operand} {q : Prop} {v : AV} (h : A.opd x = some (q, v)) (hq : q) :
    AVRel Φ β A.blks (a.eval x) v := by
  cases x with
  | tmp t => exact (hs.env t q v h).1 hq
  | const u =>
    simp only [St.opd, Option.map_eq_some_iff] at h
    obtain ⟨y, hy, he⟩ := h
    simp only [Prod.mk.injEq] at he
    obtain ⟨_, rfl⟩ := he
    exact cst_rel hy
  | func f =>
    simp only [St.opd, Option.some.injEq, Prod.mk.injEq] at h
    obtain ⟨_, rfl⟩ := h
    exact Rel.fn f [] #[] (fun _ => undef) rfl (fun j c h => by simp at h) (fun j c h => by simp at h)
  | global g => simp [St.opd] at h
/-- The value of an operand where p holds. -/
def Ev (A : St) (p : Prop) (x : Operand) (v : AV) : Prop := ∃ q, A.opd x = some (q, v) ∧ (p → q)
theorem Ev.of {p q : Prop} {x : Operand} {v : AV} (h : A.opd x = some (q, v)) (hp : p → q) : Ev A p x v := ⟨_, h, hp⟩
theorem Sat.ev {Φ : Frz} {β : Own} {a : Act} {w : World} (hs : Sat G Φ β A a w) {p : Prop} {x : Operand} {v : AV} (h : Ev A p x v) (hp : p) : AVRel Φ β A.blks (a.eval x) v :=
  let ⟨_, h1, h2⟩ := h
  hs.opd h1 (h2 hp)
theorem AVRel.bool {Φ : Frz} {β : Own} {bl : List (Nat × Blk)} {v : Value} {b : Bool} (h : AVRel Φ β bl v (.pv (.one (.bool b)))) : v = .bool b := by
  cases (show Rel Φ v (.bool b) from h); rfl
theorem AVRel.int {Φ : Frz} {β : Own} {bl : List (Nat × Blk)} {v : Value} {k : IntKind} {n : Int} (h : AVRel Φ β bl v (.pv (.one (.int k n)))) : v = .int k n := by
  cases (show Rel Φ v (.int k n) from h); rfl
theorem AVRel.str {Φ : Frz} {β : Own} {bl : List (Nat × Blk)} {v : Value} {l : List UInt8} (h : AVRel Φ β bl v (.pv (.one (.str l)))) : ∃ s : ByteArray, v = .string s ∧ s.data.toList = l := by
  cases (show Rel Φ v (.str l) from h); exact ⟨_, rfl, rfl⟩
theorem W.cond {c : Operand} {x y : Code} {b : Bool} (hc : Ev A True c (.pv (.one (.bool b)))) (ht : b = true → W P G x Q A) (hf : b = false → W P G y Q A) :
    W P G (.cond c x y) Q A := fun Φ β a w hs =>
  wp_cond_split (t := b) (AVRel.bool (hs.ev hc trivial)) (fun h => ht h Φ β a w hs) (fun h => hf h Φ β a w hs)
end rules
end Lf
end
section
set_option linter.unusedVariables false
set_option linter.unusedSimpArgs false
namespace Lf
open Go Go.RowKit
section
variable {P : Program} {G : Ghost} {A : St}
/-- What is left of a region. -/
def RG (P : Program) (G : Ghost) (ops : Array Oper) (rest : List Oper) (Q : St → Prop) (A : St) : Prop :=
  ∀ Φ β a w, Sat G Φ β A a w → ∀ Q' : Exit → Act → World → Prop, (∀ A' Φ' β' a' w', Q A' → Sat G Φ' β' A' a' w' → Φ.le Φ' → Q' .normal a' w') → wpList P ops Q' rest a w
theorem W.region {id : Nat} {l : List Oper} {Q : Exit → St → Prop} (h : RG P G l.toArray l (Q .normal) A) : W P G (.region id l.toArray false) Q A :=
  fun Φ β a w hs => wp_region_lit (h Φ β a w hs _ fun A' Φ' β' a' w' q s l => ⟨A', Φ', β', q, s, l⟩)
theorem RG.nil {ops : Array Oper} {Q : St → Prop} (h : Q A) : RG P G ops [] Q A := fun Φ β a w hs Q' hq => wpList_nil (hq A Φ β a w h hs Φ.le_refl)
theorem RG.weaken {ops : Array Oper} {rest : List Oper} {Q : St → Prop} {B : St} (hl : Le A B) (h : RG P G ops rest Q B) : RG P G ops rest Q A := fun Φ β a w hs Q' hq =>
  let ⟨Φ1, β1, hle, hs1⟩ := hl G Φ β a w hs
  h Φ1 β1 a w hs1 Q' fun A' Φ' β' a' w' q s l => hq A' Φ' β' a' w' q s (Frz.le_trans hle l)
/-- An operation is carried out exactly if p holds. -/
def GOk (A : St) (ops : Array Oper) (o : Oper) (p : Prop) : Prop := ∀ G Φ β a w, Sat G Φ β A a w → (Region.wanted o (yielded ops a.tmps) = true ↔ p)
theorem GOk.none {ops : Array Oper} {o : Oper} (h : o.guard = none) : GOk A ops o True := fun G Φ β a w hs => by simp [Region.wanted, h]
theorem getD_undef {a : Act} {t : Nat} {v : Value} (h : a.tmps.getD t undef = v) (hv : v ≠ undef) : a.tmps[t]? = some v := by
  rw [Array.getD_eq_getD_getElem?] at h
  cases hx : a.tmps[t]? with
  | none => rw [hx] at h; exact absurd h.symm hv
  | some u => rw [hx] at h; simp at h; rw [h]
theorem undef_ne_bool (b : Bool) : Value.bool b ≠ undef := by simp [undef]
theorem GOk.if {ops : Array Oper} {o : Oper} {j t : Nat} {want b : Bool} {q : Prop} (h : o.guard = some (j, want)) (hj : (ops[j]?).bind (·.dst) = some t)
    (ht : lk A.env t = some (q, .pv (.one (.bool b)))) : GOk A ops o (q ∧ b = want) := fun G Φ β a w hs => by
  have he := hs.env t q _ ht
  by_cases hq : q
  · have hv := getD_undef (AVRel.bool (he.1 hq)) (undef_ne_bool b)
    simp [Region.wanted, h, yielded, hj, hv, hq]
  · have hv : yielded ops a.tmps j = Option.none := by
      unfold yielded
      rw [hj]
      have hu := he.2 hq
      rw [Array.getD_eq_getD_getElem?] at hu
      simp only [Option.bind_some]
      cases hx : a.tmps[t]? with
      | none => rfl
      | some u =>
        rw [hx] at hu
        simp at hu
        subst hu
        rfl
    simp [Region.wanted, h, hv, hq]
theorem GOk.ifT {ops : Array Oper} {o : Oper} {j t : Nat} {want b : Bool} (h : o.guard = some (j, want)) (hj : (ops[j]?).bind (·.dst) = some t)
    (ht : lk A.env t = some (True, .pv (.one (.bool b)))) : GOk A ops o (b = want) := fun G Φ β a w hs => by
  rw [GOk.if h hj ht G Φ β a w hs]; simp
/-- An operation that only makes a value (and perhaps new memory that nobody writes). -/
def PureOp (P : Program) (G : Ghost) (A : St) (o : Oper) (p : Prop) (v : AV) : Prop :=
  ∀ Φ β a w, Sat G Φ β A a w → p → o.wp P a w (fun a' w' => ∃ u Φ', a' = a.put o.dst u ∧ AVRel Φ' β A.blks u v ∧ Φ.le Φ' ∧ (∀ b, b < w.heap.size → Φ' b = Φ b) ∧ Fits Φ' w' ∧ Below w.heap.size w w') (fun _ _ _ => False)
theorem PureOp.val {o : Oper} {p : Prop} {v : AV} (h : ∀ Φ β a w, Sat G Φ β A a w → p → ∃ u, (execOp a.eval o).run P w = .ok (.value u) w ∧ AVRel Φ β A.blks u v) : PureOp P G A o p v := fun Φ β a w hs hp => by
  obtain ⟨u, hr, hv⟩ := h Φ β a w hs hp
  unfold Oper.wp
  rw [hr]
  exact ⟨u, Φ, rfl, hv, Φ.le_refl, fun _ _ => rfl, hs.fits, Below.refl _ _⟩
theorem Oper.wp_mono' {o : Oper} {a : Act} {w : World} {K K' : Act → World → Prop} {Q Q' : Exit → Act → World → Prop} (h : o.wp P a w K Q) (hk : ∀ a w, K a w → K' a w) (hq : ∀ e a w, Q e a w → Q' e a w) : o.wp P a w K' Q' := by
  unfold Oper.wp at *
  generalize (execOp a.eval o).run P w = r at *
  cases r with
  | ok n w' =>
    cases n <;> simp only [Oper.upon] at h ⊢ <;>
      first
        | exact hk _ _ h
        | exact Calls.mono h (fun e w'' he => by
            cases e <;> first
              | exact hk _ _ he
              | exact hq _ _ _ he
              | (obtain ⟨a0, w0, h0⟩ := he; exact ⟨a0, w0, hq _ _ _ h0⟩))
        | exact Rows.mono h (fun _ _ he => hk _ _ he)
  | halt x w' => cases x <;> simp only [Oper.upon] at h ⊢ <;> exact hq _ _ _ h
theorem BlkRel.lt {Φ : Frz} {w : World} {b cap : Nat} {B : Blk} (h : BlkRel Φ w b cap B) : b < w.heap.size := by
  obtain ⟨o, h1⟩ := h.ex
  exact (Array.getElem?_eq_some_iff.1 h1).1
theorem blkRel_below {Φ Φ' : Frz} {w w' : World} {b cap : Nat} {B : Blk} (hle : Φ.le Φ') (hb : Below w.heap.size w w') (h : BlkRel Φ w b cap B) : BlkRel Φ' w' b cap B := h.keep hle (hb.block b h.lt)
theorem Kept.below {w w' : World} (h : Kept G w) (hb : Below w.heap.size w w') : Kept G w' :=
  ⟨hb.os.trans h.os, hb.tape.trans h.tape, hb.output.trans h.output, Nat.le_trans h.size hb.size, fun b hk => (hb.block b (Nat.lt_of_lt_of_le (G.lt b hk) h.size)).trans (h.block b hk)⟩
theorem put_getD {a : Act} {d t : Nat} {u : Value} (hd : d < a.tmps.size) : (a.put (some d) u).tmps.getD t undef = if d = t then u else a.tmps.getD t undef := by
  simp only [Act.put, Array.getD_eq_getD_getElem?]
  by_cases h : d = t
  · subst h; simp [hd]
  · simp [h, Array.getElem?_setIfInBounds_ne h]
theorem Sat.set {Φ Φ' : Frz} {β : Own} {a : Act} {w w' : World} (hs : Sat G Φ β A a w) (hle : Φ.le Φ') (heq : ∀ b, b < w.heap.size → Φ' b = Φ b) (hf : Fits Φ' w') (hb : Below w.heap.size w w')
    {d : Nat} (hd : d < A.n) {q : Prop} {v : AV} {u : Value} (hv : q → AVRel Φ' β A.blks u v) (hn : ¬ q → u = undef) : Sat G Φ' β (A.set d q v) (a.put (some d) u) w' where
  kept := hs.kept.below hb
  fits := hf
  old := fun b hk => (heq b (Nat.lt_of_lt_of_le (G.lt b hk) hs.kept.size)).trans (hs.old b hk)
  siz := by simpa [Act.put, St.set] using hs.siz
  dfr := hs.dfr
  env := fun t q' v' h => by
    have hd' : d < a.tmps.size := Nat.lt_of_lt_of_le hd hs.siz
    rw [put_getD hd']
    simp only [St.set, lk_cons] at h
    by_cases e : d = t
    · rw [if_pos e] at h ⊢
      simp only [Option.some.injEq, Prod.mk.injEq] at h
      obtain ⟨rfl, rfl⟩ := h
      exact ⟨hv, hn⟩
    · rw [if_neg e] at h ⊢
      exact ⟨fun hq => ((hs.env t q' v' h).1 hq).mono hle, (hs.env t q' v' h).2⟩
  blk := fun n B b cap h1 h2 => by
    obtain ⟨h3, h4, h5⟩ := hs.blk n B b cap h1 h2
    exact ⟨blkRel_below hle hb h3, h4, by rw [heq b h3.lt]; exact h5⟩
  vir := hs.vir
  inj := hs.inj
theorem RG.pure {ops : Array Oper} {o : Oper} {rest : List Oper} {Q : St → Prop} {p : Prop} {v : AV} {d : Nat} (hg : GOk A ops o p) (hp : PureOp P G A o p v) (hd : o.dst = some d) (hn : d < A.n)
    (h : RG P G ops rest Q (A.set d p v)) : RG P G ops (o :: rest) Q A := fun Φ β a w hs Q' hq => by
  unfold wpList
  have hw := hg G Φ β a w hs
  by_cases hpp : p
  · rw [if_pos (hw.2 hpp)]
    refine .inl (Oper.wp_mono' (hp Φ β a w hs hpp) (fun a' w' ⟨u, Φ', ha, hv, hle, heq, hf, hb⟩ => ?_) (fun _ _ _ h => h.elim))
    subst ha
    rw [hd]
    exact h Φ' β _ w' (hs.set hle heq hf hb hn (fun _ => hv) (fun hx => (hx hpp).elim)) Q' fun A1 Φ1 β1 a1 w1 q s l => hq A1 Φ1 β1 a1 w1 q s (Frz.le_trans hle l)
  · rw [if_neg (fun hx => hpp (hw.1 hx)), hd]
    exact h Φ β _ w (hs.set Φ.le_refl (fun _ _ => rfl) hs.fits (Below.refl _ _) hn (fun hx => (hpp hx).elim) (fun _ => rfl)) Q' hq
/-- An operation that turns blocks of the call's own. -/
def EffOp (P : Program) (G : Ghost) (A : St) (o : Oper) (A' : St) : Prop :=
  ∀ Φ β a w, Sat G Φ β A a w → o.wp P a w (fun a' w' => ∃ Φ' β', Sat G Φ' β' A' a' w' ∧ Φ.le Φ') (fun _ _ _ => False)
theorem RG.eff {ops : Array Oper} {o : Oper} {rest : List Oper} {Q : St → Prop} {A' : St} (hg : o.guard = none) (hp : EffOp P G A o A') (h : RG P G ops rest Q A') : RG P G ops (o :: rest) Q A := fun Φ β a w hs Q' hq => by
  refine wpList_plain hg fun K hK => Oper.wp_mono' (hp Φ β a w hs) (fun a' w' ⟨Φ', β', hs', hle⟩ => hK _ _ ?_) (fun _ _ _ h => h.elim)
  exact h Φ' β' a' w' hs' Q' fun A1 Φ1 β1 a1 w1 q s l => hq A1 Φ1 β1 a1 w1 q s (Frz.le_trans hle l)
end
inductive TK where
  | int (k : IntKind) | bool | string | slice (e : Nat) | struct (fs : List (Nat × Nat)) | array (n e : Nat) | ptr (e : Nat) | map (k e : Nat) | func | iface | other
structure TI where
  kind : TK
  sz : Nat
  bytes : Nat
  zero : PV
def TK.ok (P : Program) (t : Nat) : TK → Prop
  | .int k => P.underlying t = some (.int k)
  | .bool => P.underlying t = some .bool
  | .string => P.underlying t = some .string
  | .slice e => P.underlying t = some (.slice e)
  | .struct fs => ∃ fields, P.underlying t = some (.struct fields) ∧ fields.toList.map (fun f => (f.offset, f.type)) = fs
  | .array n e => P.underlying t = some (.array n e)
  | .ptr e => P.underlying t = some (.pointer e)
  | .map k e => P.underlying t = some (.map k e)
  | .func => ∃ a b c, P.underlying t = some (.func a b c)
  | .iface => ∃ ms, P.underlying t = some (.interface ms)
  | .other => True
def TK.isAgg : TK → Option Bool
  | .struct _ | .array .. => some true
  | .other => none
  | _ => some false
structure TI.ok (P : Program) (t : Nat) (ti : TI) : Prop where
  small : Nat.ble mapTag t = false
  kind : ti.kind.ok P t
  info : ∃ i, P.info? t = some i ∧ i.size = ti.sz ∧ i.bytes = ti.bytes ∧ ∃ z, i.zero = some z ∧ ∀ Φ, PRel Φ z ti.zero
abbrev TT := Nat → Option TI
def TOK (P : Program) (T : TT) : Prop := ∀ t ti, T t = some ti → ti.ok P t
section
variable {P : Program} {G : Ghost} {A : St} {T : TT} (hT : TOK P T)
include hT
theorem run_isAgg {t : Nat} {ti : TI} {b : Bool} (h : T t = some ti) (hb : ti.kind.isAgg = some b) (w : World) : (isAgg t).run P w = .ok b w := by
  have hk := (hT t ti h).kind
  unfold isAgg
  rcases ti with ⟨k, sz, bytes, z⟩
  cases k <;> simp only [TK.isAgg, Option.some.injEq, reduceCtorEq] at hb <;> simp only [TK.ok] at hk <;>
    first
      | (simp [run_underlying hk, hb]; done)
      | (obtain ⟨x, hx, _⟩ := hk; simp [run_underlying hx, hb]; done)
      | (obtain ⟨x, y, z, hx⟩ := hk; simp [run_underlying hx, hb]; done)
      | (obtain ⟨x, hx⟩ := hk; simp [run_underlying hx, hb]; done)
theorem run_sizeOf {t : Nat} {ti : TI} (h : T t = some ti) (w : World) : (Go.sizeOf t).run P w = .ok ti.sz w := by
  obtain ⟨i, hi, hs, _⟩ := (hT t ti h).info
  simp [Go.sizeOf, typeInfo, hi, hs]
theorem run_loadAt_one {t : Nat} {ti : TI} (h : T t = some ti) (hb : ti.kind.isAgg = some false) {w : World} {ad : Addr} {v : Value} (hv : w.cell? ad = some v) :
    (Instr.loadAt t (.pointer (some ad))).run P w = .ok v w := by
  simp [Instr.loadAt, Instr.sureAddr, loadVar, run_isAgg hT h hb, hv]
theorem run_loadAt_agg {t : Nat} {ti : TI} (h : T t = some ti) (hb : ti.kind.isAgg = some true) {w : World} {b o : Nat} {f : Nat → Value} (hv : ∀ j, j < ti.sz → w.cell? ⟨b, o + j, none⟩ = some (f j)) :
    (Instr.loadAt t (.pointer (some ⟨b, o, none⟩))).run P w = .ok (.agg ((List.range ti.sz).map f).toArray) w := by
  have := run_loadCells (P := P) w ⟨b, o, none⟩ ti.sz f (fun j hj => by rw [Addr.add_lit]; exact hv j hj)
  simp [Instr.loadAt, Instr.sureAddr, loadVar, run_isAgg hT h hb, run_sizeOf hT h, this]
end
theorem exec_load {P : Program} {ρ : Operand → Value} {o : Oper} {t : Nat} {x : Operand} (ho : o.op = .load t x) {w w' : World} {v : Value} (h : (Instr.loadAt t (ρ x)).run P w = .ok v w') :
    (execOp ρ o).run P w = .ok (.value v) w' := by simp [execOp, ho, h]
theorem relL_range {Φ : Frz} {f : Nat → Value} {cs : List Cell} (h : ∀ j c, cs[j]? = some c → Rel Φ (f j) c) : RelL Φ ((List.range cs.length).map f) cs :=
  RelL.of_get (by simp) fun j c hj => ⟨f j, by
    have hlt : j < cs.length := (List.getElem?_eq_some_iff.1 hj).1
    simp [List.getElem?_map, List.getElem?_range hlt], h j c hj⟩
theorem fits_cell {Φ : Frz} {w : World} (hf : Fits Φ w) {b k : Nat} {v : Value} (h : (Φ b).bind (·[k]?) = some v) : w.cell? ⟨b, k, none⟩ = some v := by
  cases hb : Φ b with
  | none => simp [hb] at h
  | some c =>
    obtain ⟨E, fz, hw⟩ := hf b c hb
    rw [cell_of_row w b k c E fz hw]
    simpa [hb] using h
section
variable {P : Program} {G : Ghost} {A : St} {T : TT} {o : Oper} {p : Prop}
theorem P_move {x : Operand} {v : AV} (ho : o.op = .move x) (hx : Ev A p x v) : PureOp P G A o p v := PureOp.val fun Φ β a w hs hp =>
  ⟨_, by simp [execOp, ho], hs.ev hx hp⟩
theorem P_assign {x : Operand} {v : AV} (ho : o.op = .assign x) (hx : Ev A p x v) : PureOp P G A o p v := PureOp.val fun Φ β a w hs hp =>
  ⟨_, by simp [execOp, ho], hs.ev hx hp⟩
theorem P_pick {c x y : Operand} {b bx bz : Bool} (ho : o.op = .pick c x y) (hc : Ev A p c (.pv (.one (.bool b)))) (hx : Ev A (p ∧ b = true) x (.pv (.one (.bool bx)))) (hy : Ev A (p ∧ b = false) y (.pv (.one (.bool bz)))) :
    PureOp P G A o p (.pv (.one (.bool (bif b then bx else bz)))) := PureOp.val fun Φ β a w hs hp => by
  have h1 := AVRel.bool (hs.ev hc hp)
  refine ⟨.bool (bif b then bx else bz), ?_, Rel.bool _⟩
  cases b with
  | true => have h2 := AVRel.bool (hs.ev hx ⟨hp, rfl⟩); simp [execOp, ho, h1, h2, asBool]
  | false => have h2 := AVRel.bool (hs.ev hy ⟨hp, rfl⟩); simp [execOp, ho, h1, h2, asBool]
theorem P_or {c y : Operand} {b bz : Bool} (ho : o.op = .pick c (.const (.bool true)) y) (hc : Ev A p c (.pv (.one (.bool b)))) (hy : Ev A (p ∧ b = false) y (.pv (.one (.bool bz)))) :
    PureOp P G A o p (.pv (.one (.bool (b || bz)))) := by
  have := P_pick (P := P) (G := G) ho hc (bx := true) ⟨True, rfl, fun _ => trivial⟩ hy
  cases b <;> simpa using this
theorem P_and {c x : Operand} {b bx : Bool} (ho : o.op = .pick c x (.const (.bool false))) (hc : Ev A p c (.pv (.one (.bool b)))) (hx : Ev A (p ∧ b = true) x (.pv (.one (.bool bx)))) :
    PureOp P G A o p (.pv (.one (.bool (b && bx)))) := by
  have := P_pick (P := P) (G := G) ho hc hx (bz := false) ⟨True, rfl, fun _ => trivial⟩
  cases b <;> simpa using this
variable (hT : TOK P T)
include hT
/-- A load out of an own block. -/
theorem P_load_own {t n i off : Nat} {x : Operand} {ti : TI} {B : Blk} {r : List Cell} {c : Cell} (ho : o.op = .load t x) (ht : T t = some ti) (hb : ti.kind.isAgg = some false)
    (hx : Ev A p x (.addr n i off)) (hl : lk A.blks n = some B) (hr : p → B.rows[i]? = some r) (hc : p → r[off]? = some c) : PureOp P G A o p (.pv (.one c)) := PureOp.val fun Φ β a w hs hp => by
  obtain ⟨b, cap, B', h1, h2, hob, h3⟩ := hs.ev hx hp
  obtain rfl : B = B' := by rw [hl] at h2; exact Option.some.inj h2
  obtain ⟨cur, g1, g2, g3, g4, g5, g6⟩ := (hs.blk n B b cap hl h1).1.cells hob
  obtain ⟨v, hv, hrel⟩ := g6 i off r c (hr hp) (hc hp)
  have hcell : w.cell? ⟨b, i * B.sz + off, none⟩ = some v := by rw [cell_of_row w b _ cur B.E (0, 0) g1]; exact hv
  exact ⟨v, exec_load ho (by rw [h3]; exact run_loadAt_one hT ht hb hcell), hrel⟩
theorem P_load_own_agg {t n i off : Nat} {x : Operand} {ti : TI} {B : Blk} {r : List Cell} (ho : o.op = .load t x) (ht : T t = some ti) (hb : ti.kind.isAgg = some true)
    (hx : Ev A p x (.addr n i off)) (hl : lk A.blks n = some B) (hr : p → B.rows[i]? = some r) (hc : p → off + ti.sz ≤ r.length) : PureOp P G A o p (.pv (.agg ((r.drop off).take ti.sz))) := PureOp.val fun Φ β a w hs hp => by
  obtain ⟨b, cap, B', h1, h2, hob, h3⟩ := hs.ev hx hp
  obtain rfl : B = B' := by rw [hl] at h2; exact Option.some.inj h2
  obtain ⟨cur, g1, g2, g3, g4, g5, g6⟩ := (hs.blk n B b cap hl h1).1.cells hob
  have hlen : ((r.drop off).take ti.sz).length = ti.sz := by have := hc hp; simp; omega
  have hget : ∀ j, j < ti.sz → ∃ c, r[off + j]? = some c := fun j hj => ⟨r[off + j]'(by have := hc hp; omega), List.getElem?_eq_getElem _⟩
  have hcell : ∀ j, j < ti.sz → w.cell? ⟨b, i * B.sz + off + j, none⟩ = some (cur[i * B.sz + off + j]?.getD undef) := fun j hj => by
    obtain ⟨c, hcc⟩ := hget j hj
    obtain ⟨v, hv, _⟩ := g6 i (off + j) r c (hr hp) hcc
    rw [cell_of_row w b _ cur B.E (0, 0) g1]
    have e : i * B.sz + (off + j) = i * B.sz + off + j := by omega
    rw [e] at hv
    simp [hv]
  refine ⟨_, exec_load ho (by rw [h3]; exact run_loadAt_agg hT ht hb hcell), _, rfl, ?_⟩
  have := relL_range (Φ := Φ) (f := fun j => cur[i * B.sz + off + j]?.getD undef) (cs := (r.drop off).take ti.sz) (fun j c hj => by
    rw [List.getElem?_take] at hj
    split at hj
    · rw [List.getElem?_drop] at hj
      obtain ⟨v, hv, hrel⟩ := g6 i (off + j) r c (hr hp) hj
      have e : i * B.sz + (off + j) = i * B.sz + off + j := by omega
      rw [e] at hv
      simpa [hv] using hrel
    · cases hj)
  rwa [hlen] at this
/-- A load through a pointer to memory that does not turn. -/
theorem P_load_ptr {t : Nat} {x : Operand} {ti : TI} {cs : List Cell} {c : Cell} (ho : o.op = .load t x) (ht : T t = some ti) (hb : ti.kind.isAgg = some false)
    (hx : Ev A p x (.pv (.one (.ptr cs)))) (hc : p → cs[0]? = some c) : PureOp P G A o p (.pv (.one c)) := PureOp.val fun Φ β a w hs hp => by
  have hr : Rel Φ (a.eval x) (.ptr cs) := hs.ev hx hp
  generalize hv : a.eval x = v at hr
  cases hr with
  | ptr b off _ f h1 h2 =>
    have hcell := fits_cell hs.fits (h1 0 c (hc hp))
    exact ⟨f 0, exec_load ho (by rw [hv]; exact run_loadAt_one hT ht hb hcell), h2 0 c (hc hp)⟩
theorem P_load_ptr_agg {t : Nat} {x : Operand} {ti : TI} {cs : List Cell} (ho : o.op = .load t x) (ht : T t = some ti) (hb : ti.kind.isAgg = some true)
    (hx : Ev A p x (.pv (.one (.ptr cs)))) (hc : p → ti.sz ≤ cs.length) : PureOp P G A o p (.pv (.agg (cs.take ti.sz))) := PureOp.val fun Φ β a w hs hp => by
  have hr : Rel Φ (a.eval x) (.ptr cs) := hs.ev hx hp
  generalize hv : a.eval x = v at hr
  cases hr with
  | ptr b off _ f h1 h2 =>
    have hlen : (cs.take ti.sz).length = ti.sz := by have := hc hp; simp; omega
    have hcell : ∀ j, j < ti.sz → w.cell? ⟨b, off + j, none⟩ = some (f j) := fun j hj =>
      fits_cell hs.fits (h1 j (cs[j]'(by have := hc hp; omega)) (List.getElem?_eq_getElem _))
    refine ⟨_, exec_load ho (by rw [hv]; exact run_loadAt_agg hT ht hb hcell), _, rfl, ?_⟩
    have := relL_range (Φ := Φ) (f := f) (cs := cs.take ti.sz) (fun j c hj => by
      rw [List.getElem?_take] at hj
      split at hj
      · exact h2 j c hj
      · cases hj)
    rwa [hlen] at this
end
end Lf
end
section
set_option linter.unusedVariables false
set_option linter.unusedSimpArgs false
namespace Lf
open Go Go.RowKit
/-- What the integer operators give. -/
def binI : BinOp → IntKind → Int → Int → Option Cell
  | .add, k, a, b => some (.int k (k.wrap (a + b)))
  | .sub, k, a, b => some (.int k (k.wrap (a - b)))
  | .mul, k, a, b => some (.int k (k.wrap (a * b)))
  | .lss, _, a, b => some (.bool (decide (a < b)))
  | .leq, _, a, b => some (.bool (decide (a ≤ b)))
  | .gtr, _, a, b => some (.bool (decide (a > b)))
  | .geq, _, a, b => some (.bool (decide (a ≥ b)))
  | .eql, _, a, b => some (.bool (decide (a = b)))
  | .neq, _, a, b => some (.bool (!decide (a = b)))
  | .and, k, a, b => some (.int k (bits .and k a b))
  | .or, k, a, b => some (.int k (bits .or k a b))
  | .xor, k, a, b => some (.int k (bits .xor k a b))
  | .andNot, k, a, b => some (.int k (bits .andNot k a b))
  | _, _, _, _ => none
def binS : BinOp → List UInt8 → List UInt8 → Option Cell
  | .eql, a, b => some (.bool (decide (a = b)))
  | .neq, a, b => some (.bool (!decide (a = b)))
  | .lss, a, b => some (.bool (Op.bytesLess a b))
  | .leq, a, b => some (.bool (Op.bytesLess a b || decide (a = b)))
  | .gtr, a, b => some (.bool (!(Op.bytesLess a b || decide (a = b))))
  | .geq, a, b => some (.bool (!Op.bytesLess a b))
  | _, _, _ => none
def AV.flat : AV → Bool
  | .pv p => p.flat
  | .tup l => l.all PV.flat
  | _ => false
def toPV (bl : List (Nat × Blk)) : AV → Option PV
  | .pv p => some p
  | .slc n => (lk bl n).map fun B => .one (.sl B.rows)
  | .addr n i off => (lk bl n).bind fun B => (B.rows[i]?).map fun r => .one (.ptr (r.drop off))
  | .tup _ | .top | .mp _ | .mpn _ _ | .itr _ _ | .pin _ _ _ _ => none
def FnOK (P : Program) (f : FuncId) : Prop := ∃ fn, P.funcs[f]? = some fn ∧ (fn.name == "runtime.NumGoroutine") = false ∧ fn.body.isNone = false
def ArgsRel (Φ : Frz) (vs : Array Value) (args : List PV) : Prop := vs.size = args.length ∧ ∀ (j : Nat) (p : PV), args[j]? = some p → ∃ v, vs[j]? = some v ∧ PRel Φ v p
/-- THE CONTRACT OF A FUNCTION: called with such arguments it returns r; nothing that was there has turned. -/
structure ACalls (P : Program) (f : FuncId) (args : List PV) (r : AV) : Prop where
  fn : FnOK P f
  calls : ∀ Φ w vs, Fits Φ w → ArgsRel Φ vs args → Calls P f vs w (fun e w' => ∃ v Φ', e = .returned v ∧ AVRel Φ' (fun _ => none) [] v r ∧ Φ.le Φ' ∧ (∀ b, b < w.heap.size → Φ' b = Φ b) ∧ Fits Φ' w' ∧ Below w.heap.size w w')
section
variable {P : Program} {G : Ghost} {A : St} {T : TT} {o : Oper} {p : Prop}
theorem exec_val {ρ : Operand → Value} {m : Sem Value} {w w' : World} {v : Value} (ho : execOp ρ o = (do pure (.value (← m)))) (h : m.run P w = .ok v w') : (execOp ρ o).run P w = .ok (.value v) w' := by
  rw [ho]; simp [h]
theorem bin_run {Φ : Frz} {ρ : Operand → Value} {op : BinOp} {xt yt : Nat} {x y : Operand} {k : IntKind} {m n : Int} {c : Cell} (ho : o.op = .binOp op xt x y yt) (h1 : ρ x = .int k m) (h2 : ρ y = .int k n)
    (hr : binI op k m n = some c) (w : World) : ∃ u, (execOp ρ o).run P w = .ok (.value u) w ∧ Rel Φ u c := by
  have he : ∀ op, eqGuard op xt x y (.int k m) (.int k n) = pure () := fun op => by cases op <;> rfl
  have hx : (execOp ρ o).run P w = ((binOp op xt (.int k m) (.int k n)).run P w).andThen fun v w => .ok (.value v) w := by
    simp only [execOp, ho, h1, h2, he, pure_bind]; simp
  cases op <;> simp only [binI, Option.some.injEq, reduceCtorEq] at hr <;> subst hr <;> rw [hx]
  · exact ⟨_, by simp [binOp, Op.intArith], Rel.int _ _⟩
  · exact ⟨_, by simp [binOp, Op.intArith], Rel.int _ _⟩
  · exact ⟨_, by simp [binOp, Op.intArith], Rel.int _ _⟩
  · exact ⟨.int k (bits .and k m n), by simp [binOp, Op.intBits]; rfl, Rel.int _ _⟩
  · exact ⟨.int k (bits .or k m n), by simp [binOp, Op.intBits]; rfl, Rel.int _ _⟩
  · exact ⟨.int k (bits .xor k m n), by simp [binOp, Op.intBits]; rfl, Rel.int _ _⟩
  · exact ⟨.int k (bits .andNot k m n), by rw [binOp_andNot, intBits_andNot]; simp, Rel.int _ _⟩
  · exact ⟨.bool (decide (m = n)), by simp [binOp, Op.intCmp]; rfl, Rel.bool _⟩
  · exact ⟨.bool (!decide (m = n)), by simp [binOp, Op.intCmp]; rfl, Rel.bool _⟩
  · exact ⟨.bool (decide (m < n)), by simp [binOp, Op.intCmp], Rel.bool _⟩
  · exact ⟨.bool (decide (m ≤ n)), by simp [binOp, Op.intCmp], Rel.bool _⟩
  · exact ⟨.bool (decide (m > n)), by simp [binOp, Op.intCmp], Rel.bool _⟩
  · exact ⟨.bool (decide (m ≥ n)), by simp [binOp, Op.intCmp], Rel.bool _⟩
theorem P_bin {op : BinOp} {xt yt : Nat} {x y : Operand} {k : IntKind} {m n : Int} {c : Cell} (ho : o.op = .binOp op xt x y yt) (hx : Ev A p x (.pv (.one (.int k m)))) (hy : Ev A p y (.pv (.one (.int k n))))
    (hr : binI op k m n = some c) : PureOp P G A o p (.pv (.one c)) := PureOp.val fun Φ β a w hs hp =>
  bin_run ho (AVRel.int (hs.ev hx hp)) (AVRel.int (hs.ev hy hp)) hr w
theorem P_rem {xt yt : Nat} {x y : Operand} {k : IntKind} {m n : Int} (ho : o.op = .binOp .rem xt x y yt) (hx : Ev A p x (.pv (.one (.int k m)))) (hy : Ev A p y (.pv (.one (.int k n))))
    (hn : p → n ≠ 0) : PureOp P G A o p (.pv (.one (.int k (m.tmod n)))) := PureOp.val fun Φ β a w hs hp => by
  have h1 := AVRel.int (hs.ev hx hp)
  have h2 := AVRel.int (hs.ev hy hp)
  exact ⟨.int k (m.tmod n), by simp [execOp, ho, h1, h2, binOp, Op.intDiv, hn hp, eqGuard], Rel.int _ _⟩
theorem P_not {xt : Nat} {x : Operand} {b : Bool} (ho : o.op = .unOp .not xt x) (hx : Ev A p x (.pv (.one (.bool b)))) : PureOp P G A o p (.pv (.one (.bool (!b)))) := PureOp.val fun Φ β a w hs hp =>
  ⟨.bool (!b), by simp [execOp, ho, AVRel.bool (hs.ev hx hp), Op.unary], Rel.bool _⟩
theorem beq_dec {α : Type _} [BEq α] [LawfulBEq α] [DecidableEq α] (x y : α) : (x == y) = decide (x = y) := by
  rw [Bool.eq_iff_iff, beq_iff_eq, decide_eq_true_iff]
theorem bytes_toList (s : ByteArray) : s.toList = s.data.toList := by simp [ByteArray.toList_eq]
theorem binS_run {Φ : Frz} {ρ : Operand → Value} {op : BinOp} {xt yt : Nat} {x y : Operand} {s t : ByteArray} {c : Cell} (ho : o.op = .binOp op xt x y yt) (h1 : ρ x = .string s) (h2 : ρ y = .string t)
    (hr : binS op s.data.toList t.data.toList = some c) (w : World) : ∃ u, (execOp ρ o).run P w = .ok (.value u) w ∧ Rel Φ u c := by
  have he : ∀ op, eqGuard op xt x y (.string s) (.string t) = pure () := fun op => by cases op <;> rfl
  have hx : (execOp ρ o).run P w = ((Op.stringOp op s t).run P w).andThen fun v w => .ok (.value v) w := by
    have hb : binOp op xt (.string s) (.string t) = Op.stringOp op s t := by cases op <;> rfl
    simp only [execOp, ho, h1, h2, he, pure_bind, hb]; simp
  cases op <;> simp only [binS, Option.some.injEq, reduceCtorEq] at hr <;> subst hr <;> rw [hx] <;> simp only [Op.stringOp, bytes_toList, beq_dec] <;> exact ⟨_, rfl, Rel.bool _⟩
theorem P_binS {op : BinOp} {xt yt : Nat} {x y : Operand} {l m : List UInt8} {c : Cell} (ho : o.op = .binOp op xt x y yt) (hx : Ev A p x (.pv (.one (.str l)))) (hy : Ev A p y (.pv (.one (.str m))))
    (hr : binS op l m = some c) : PureOp P G A o p (.pv (.one c)) := PureOp.val fun Φ β a w hs hp => by
  obtain ⟨s, h1, rfl⟩ := AVRel.str (hs.ev hx hp)
  obtain ⟨t, h2, rfl⟩ := AVRel.str (hs.ev hy hp)
  exact binS_run ho h1 h2 hr w
theorem P_extract {x : Operand} {i : Nat} {l : List PV} {q : PV} (ho : o.op = .extract x i) (hx : Ev A p x (.tup l)) (hi : l[i]? = some q) : PureOp P G A o p (.pv q) := PureOp.val fun Φ β a w hs hp => by
  obtain ⟨arr, h1, h2, h3⟩ := hs.ev hx hp
  obtain ⟨u, h4, h5⟩ := h3 i q hi
  exact ⟨u, by simp [execOp, ho, h1, Instr.extract, h4], h5⟩
variable (hT : TOK P T)
include hT
theorem P_conv_int {src dst : Nat} {x : Operand} {ks kd : IntKind} {n : Int} {ti tj : TI} (ho : o.op = .convert src dst x) (hs0 : T src = some ti) (hk : ti.kind = .int ks) (hd0 : T dst = some tj) (hk' : tj.kind = .int kd)
    (hx : Ev A p x (.pv (.one (.int ks n)))) : PureOp P G A o p (.pv (.one (.int kd (kd.wrap n)))) := PureOp.val fun Φ β a w hs hp => by
  have h1 : P.underlying src = some (.int ks) := by have := (hT _ _ hs0).kind; rw [hk] at this; exact this
  have h2 : P.underlying dst = some (.int kd) := by have := (hT _ _ hd0).kind; rw [hk'] at this; exact this
  exact ⟨.int kd (kd.wrap n), exec_val (m := convert src dst (a.eval x)) (by simp only [execOp, ho]) (by simp [convert, run_underlying h1, run_underlying h2, AVRel.int (hs.ev hx hp), Conv.intToInt]), Rel.int _ _⟩
theorem run_fieldAt {s f fo ft : Nat} {ti tj : TI} {fs : List (Nat × Nat)} (ht : T s = some ti) (hk : ti.kind = .struct fs) (hf : fs[f]? = some (fo, ft)) (hj : T ft = some tj) (hz : tj.sz ≠ 0) (b off : Nat) (w : World) :
    (Instr.fieldAt s (.pointer (some ⟨b, off, none⟩)) f).run P w = .ok (.pointer (some ⟨b, off + fo, none⟩)) w := by
  have h1 := (hT _ _ ht).kind
  rw [hk] at h1
  obtain ⟨fields, hu, hm⟩ := h1
  have h2 : ∃ fl, fields[f]? = some fl ∧ fl.offset = fo ∧ fl.type = ft := by
    rw [← hm] at hf
    simp only [List.getElem?_map, Option.map_eq_some_iff, Prod.mk.injEq, Array.getElem?_toList] at hf
    obtain ⟨fl, a, b, c⟩ := hf
    exact ⟨fl, a, b, c⟩
  obtain ⟨fl, h3, h4, h5⟩ := h2
  subst h4 h5
  simp [Instr.fieldAt, run_underlying hu, h3, Instr.sureAddr, fieldPlace, run_sizeOf hT hj, hz, Addr.add_lit]
theorem P_field_own {s f n i off fo ft : Nat} {x : Operand} {ti tj : TI} {fs : List (Nat × Nat)} (ho : o.op = .fieldAddr s x f) (ht : T s = some ti) (hk : ti.kind = .struct fs) (hf : fs[f]? = some (fo, ft)) (hj : T ft = some tj) (hz : tj.sz ≠ 0)
    (hx : Ev A p x (.addr n i off)) : PureOp P G A o p (.addr n i (off + fo)) := PureOp.val fun Φ β a w hs hp => by
  obtain ⟨b, cap, B, h1, h2, hob, h3⟩ := hs.ev hx hp
  exact ⟨_, exec_val (m := Instr.fieldAt s (a.eval x) f) (by simp only [execOp, ho]) (by rw [h3]; exact run_fieldAt hT ht hk hf hj hz _ _ w), b, cap, B, h1, h2, hob, by rw [Nat.add_assoc]⟩
theorem P_field_ptr {s f fo ft : Nat} {x : Operand} {ti tj : TI} {fs : List (Nat × Nat)} {cs : List Cell} (ho : o.op = .fieldAddr s x f) (ht : T s = some ti) (hk : ti.kind = .struct fs) (hf : fs[f]? = some (fo, ft)) (hj : T ft = some tj) (hz : tj.sz ≠ 0)
    (hx : Ev A p x (.pv (.one (.ptr cs)))) : PureOp P G A o p (.pv (.one (.ptr (cs.drop fo)))) := PureOp.val fun Φ β a w hs hp => by
  have hr : Rel Φ (a.eval x) (.ptr cs) := hs.ev hx hp
  generalize hv : a.eval x = v at hr
  cases hr with
  | ptr b off _ g h1 h2 =>
    refine ⟨_, exec_val (m := Instr.fieldAt s (a.eval x) f) (by simp only [execOp, ho]) (by rw [hv]; exact run_fieldAt hT ht hk hf hj hz _ _ w), ?_⟩
    refine Rel.ptr b (off + fo) _ (fun j => g (fo + j)) (fun j c hj => ?_) (fun j c hj => ?_)
    · rw [List.getElem?_drop] at hj; rw [Nat.add_assoc]; exact h1 _ _ hj
    · rw [List.getElem?_drop] at hj; exact h2 _ _ hj
theorem run_indexAt {t e len cap : Nat} {ti te : TI} (ht : T t = some ti) (hk : ti.kind = .slice e) (he : T e = some te) {k : IntKind} {i : Int} (h0 : 0 ≤ i) (h1 : i < len) (b off : Nat) (w : World) :
    (Instr.indexAt t (.slice (some ⟨b, off, none⟩) len cap) (.int k i)).run P w = .ok (.pointer (some ⟨b, off + i.toNat * te.sz, none⟩)) w := by
  have hu : P.underlying t = some (.slice e) := by have := (hT _ _ ht).kind; rw [hk] at this; exact this
  simp [Instr.indexAt, asIntOf, run_underlying hu, h0, h1, run_sizeOf hT he, Addr.add_lit]
theorem P_index_sl {t e : Nat} {x y : Operand} {ti te : TI} {rows : List (List Cell)} {r : List Cell} {k : IntKind} {i : Int} (ho : o.op = .indexAddr t x y) (ht : T t = some ti) (hk : ti.kind = .slice e) (he : T e = some te)
    (hx : Ev A p x (.pv (.one (.sl rows)))) (hy : Ev A p y (.pv (.one (.int k i)))) (hr : p → 0 ≤ i ∧ rows[i.toNat]? = some r) (hz : p → r.length = te.sz) : PureOp P G A o p (.pv (.one (.ptr r))) := PureOp.val fun Φ β a w hs hp => by
  have hy' := AVRel.int (hs.ev hy hp)
  have hr' : Rel Φ (a.eval x) (.sl rows) := hs.ev hx hp
  obtain ⟨h0, hrow⟩ := hr hp
  have hlt := (List.getElem?_eq_some_iff.1 hrow).1
  generalize hv : a.eval x = v at hr'
  cases hr' with
  | sl0 => simp at hrow
  | slE a cap => simp at hrow
  | sl b off len cap sz _ f hlen hcap hsz hc hrr =>
    have hsz' : sz = te.sz := by rw [← hz hp]; exact (hsz r (List.mem_of_getElem? hrow)).symm
    refine ⟨_, exec_val (m := Instr.indexAt t (a.eval x) (a.eval y)) (by simp only [execOp, ho]) (by rw [hv, hy']; exact run_indexAt hT ht hk he h0 (by omega) _ _ w), ?_⟩
    refine Rel.ptr b _ _ (f i.toNat) (fun j c hj => ?_) (fun j c hj => hrr _ _ _ _ hrow hj)
    have := hc _ _ _ _ hrow hj
    rw [hsz'] at this
    rw [Nat.add_assoc]; exact this
theorem P_index_str {t : Nat} {x y : Operand} {ti : TI} {l : List UInt8} {k : IntKind} {i : Int} {c : UInt8} (ho : o.op = .index t x y) (ht : T t = some ti) (hk : ti.kind = .string)
    (hx : Ev A p x (.pv (.one (.str l)))) (hy : Ev A p y (.pv (.one (.int k i)))) (hr : p → 0 ≤ i ∧ l[i.toNat]? = some c) : PureOp P G A o p (.pv (.one (.int .u8 c.toNat))) := PureOp.val fun Φ β a w hs hp => by
  have hu : P.underlying t = some .string := by have := (hT _ _ ht).kind; rw [hk] at this; exact this
  obtain ⟨s, h1, rfl⟩ := AVRel.str (hs.ev hx hp)
  have hy' := AVRel.int (hs.ev hy hp)
  obtain ⟨h0, hrow⟩ := hr hp
  have h3 : s[i.toNat]? = some c := by
    have hlt := (List.getElem?_eq_some_iff.1 hrow)
    obtain ⟨hl, he⟩ := hlt
    have hl' : i.toNat < s.size := by simpa using hl
    rw [getElem?_pos s i.toNat hl']
    simp only [Option.some.injEq]
    rw [← he]
    rfl
  exact ⟨.int .u8 c.toNat, exec_val (m := Instr.index t (a.eval x) (a.eval y)) (by simp only [execOp, ho]) (by simp [Instr.index, h1, hy', asIntOf, run_underlying hu, h0, h3]), Rel.int _ _⟩
omit hT in
theorem len_run {ρ : Operand → Value} {t : Nat} {x : Operand} (ho : o.op = .call { callee := .builtin .len, args := #[x], argTypes := #[t] }) (w : World) {v : Value} (h : (Builtin.len_ #[t] o.type #[ρ x]).run P w = .ok v w) :
    (execOp ρ o).run P w = .ok (.value v) w := by
  have e : execOp ρ o = (do let d ← resolve ρ { callee := .builtin .len, args := #[x], argTypes := #[t] } o.type; invoke d.target d.args) := by simp only [execOp, ho]
  rw [e]
  have hm : (#[x] : Array Operand).map ρ = #[ρ x] := by simp
  simp only [resolve, pure_bind, invoke]
  show ((do pure (Next.value (← Builtin.len_ #[t] o.type ((#[x] : Array Operand).map ρ))) : Sem Next)).run P w = _
  rw [hm]
  simp [h]
theorem P_len_str {t : Nat} {x : Operand} {ti : TI} {l : List UInt8} (ho : o.op = .call { callee := .builtin .len, args := #[x], argTypes := #[t] }) (ht : T t = some ti) (hk : ti.kind = .string)
    (hx : Ev A p x (.pv (.one (.str l)))) : PureOp P G A o p (.pv (.one (.int .i64 l.length))) := PureOp.val fun Φ β a w hs hp => by
  have hu : P.underlying t = some .string := by have := (hT _ _ ht).kind; rw [hk] at this; exact this
  obtain ⟨s, h1, rfl⟩ := AVRel.str (hs.ev hx hp)
  exact ⟨.int .i64 s.data.toList.length, len_run ho w (by rw [h1]; simp [Builtin.len_, run_underlying hu, goInt]), Rel.int _ _⟩
theorem P_len_sl {t e : Nat} {x : Operand} {ti : TI} {rows : List (List Cell)} (ho : o.op = .call { callee := .builtin .len, args := #[x], argTypes := #[t] }) (ht : T t = some ti) (hk : ti.kind = .slice e)
    (hx : Ev A p x (.pv (.one (.sl rows)))) : PureOp P G A o p (.pv (.one (.int .i64 rows.length))) := PureOp.val fun Φ β a w hs hp => by
  have hu : P.underlying t = some (.slice e) := by have := (hT _ _ ht).kind; rw [hk] at this; exact this
  have hr' : Rel Φ (a.eval x) (.sl rows) := hs.ev hx hp
  generalize hv : a.eval x = v at hr'
  cases hr' with
  | sl0 => exact ⟨.int .i64 0, len_run ho w (by rw [hv]; simp [Builtin.len_, run_underlying hu, goInt]), Rel.int _ _⟩
  | slE a' cap => exact ⟨.int .i64 0, len_run ho w (by rw [hv]; simp [Builtin.len_, run_underlying hu, goInt]), Rel.int _ _⟩
  | sl b off len cap sz _ f hlen hcap hsz hc hrr => exact ⟨.int .i64 len, len_run ho w (by rw [hv]; simp [Builtin.len_, run_underlying hu, goInt]), by rw [hlen]; exact Rel.int _ _⟩
end
end Lf
end
section
set_option linter.unusedVariables false
set_option linter.unusedSimpArgs false
namespace Lf
open Go Go.RowKit
def ownedBy (β : Own) (bl : List (Nat × Blk)) (b : Nat) : Prop := ∃ n B cap, lk bl n = some B ∧ β n = some (b, cap)
open Classical in
/-- The memory that does not turn, and all that the call owns. -/
noncomputable def frzAll (Φ : Frz) (β : Own) (bl : List (Nat × Blk)) (w : World) : Frz := fun b =>
  if ownedBy β bl b then (match w.heap[b]? with | some (.cells c _ _) => some c | _ => none) else Φ b
section
variable {P : Program} {G : Ghost} {A : St} {Φ : Frz} {β : Own} {a : Act} {w : World}
theorem Sat.frz_le (hs : Sat G Φ β A a w) : Φ.le (frzAll Φ β A.blks w) := fun b c h => by
  unfold frzAll
  split
  · rename_i ho
    obtain ⟨n, B, cap, h1, h2⟩ := ho
    have := (hs.blk n B b cap h1 h2).2.2
    rw [h] at this
    cases this
  · exact h
theorem Sat.frz_fits (hs : Sat G Φ β A a w) : Fits (frzAll Φ β A.blks w) w := fun b c h => by
  unfold frzAll at h
  split at h
  · split at h
    · rename_i c' E fz hw
      obtain rfl := Option.some.inj h
      exact ⟨E, fz, hw⟩
    · cases h
  · exact hs.fits b c h
theorem Sat.frz_own (hs : Sat G Φ β A a w) {n : Nat} {B : Blk} {b cap : Nat} (h1 : lk A.blks n = some B) (h2 : β n = some (b, cap)) {cur : Array Value} {E : TypeId} {fz : Nat × Nat}
    (h3 : w.heap[b]? = some (.cells cur E fz)) : frzAll Φ β A.blks w b = some cur := by
  unfold frzAll
  rw [if_pos ⟨n, B, cap, h1, h2⟩, h3]
theorem Sat.toPV (hs : Sat G Φ β A a w) {v : Value} {x : AV} {q : PV} (h : AVRel Φ β A.blks v x) (hq : toPV A.blks x = some q) : PRel (frzAll Φ β A.blks w) v q := by
  cases x with
  | pv p => simp only [Lf.toPV, Option.some.injEq] at hq; subst hq; exact PRel.mono hs.frz_le h
  | tup l => simp [Lf.toPV] at hq
  | top => simp [Lf.toPV] at hq
  | mp n => simp [Lf.toPV] at hq
  | mpn n bb => simp [Lf.toPV] at hq
  | itr d n => simp [Lf.toPV] at hq
  | pin n b c f => simp [Lf.toPV] at hq
  | slc n =>
    obtain ⟨B, h1, hob, h2⟩ := h
    simp only [Lf.toPV, h1, Option.map_some, Option.some.injEq] at hq
    subst hq
    rcases h2 with ⟨h2, rfl⟩ | ⟨b, cap, h2, rfl⟩
    · rw [hs.vir n B h1 h2]; exact Rel.sl0
    · obtain ⟨cur, g1, g2, g3, g4, g5, g6⟩ := (hs.blk n B b cap h1 h2).1.cells hob
      refine Rel.sl b 0 _ cap B.sz B.rows (fun i j => cur[i * B.sz + j]?.getD undef) rfl g2 g5 (fun i j r c hi hj => ?_) (fun i j r c hi hj => ?_)
      · obtain ⟨v, hv, _⟩ := g6 i j r c hi hj
        rw [hs.frz_own h1 h2 g1]
        simp [hv]
      · obtain ⟨v, hv, hr⟩ := g6 i j r c hi hj
        simp only [hv, Option.getD_some]
        exact hr.mono hs.frz_le
  | addr n i off =>
    obtain ⟨b, cap, B, h2, h1, hob, rfl⟩ := h
    simp only [Lf.toPV, h1, Option.bind_some, Option.map_eq_some_iff] at hq
    obtain ⟨r, hr, rfl⟩ := hq
    obtain ⟨cur, g1, g2, g3, g4, g5, g6⟩ := (hs.blk n B b cap h1 h2).1.cells hob
    refine Rel.ptr b _ _ (fun j => cur[i * B.sz + off + j]?.getD undef) (fun j c hj => ?_) (fun j c hj => ?_)
    · rw [List.getElem?_drop] at hj
      obtain ⟨v, hv, _⟩ := g6 i (off + j) r c hr hj
      rw [hs.frz_own h1 h2 g1]
      rw [← Nat.add_assoc] at hv
      simp [hv]
    · rw [List.getElem?_drop] at hj
      obtain ⟨v, hv, hrel⟩ := g6 i (off + j) r c hr hj
      rw [← Nat.add_assoc] at hv
      simp only [hv, Option.getD_some]
      exact hrel.mono hs.frz_le
/-- A nil slice reads as1 an empty one. -/
inductive CSub : Cell → Cell → Prop
  | refl (c : Cell) : CSub c c
  | nil : CSub .slnil (.sl [])
def LSub : List Cell → List Cell → Prop
  | [], [] => True
  | c :: cs, d :: ds => CSub c d ∧ LSub cs ds
  | _, _ => False
def PSub : PV → PV → Prop
  | .one c, .one d => CSub c d
  | .agg cs, .agg ds => LSub cs ds
  | _, _ => False
theorem LSub.refl : ∀ l, LSub l l
  | [] => trivial
  | c :: l => ⟨.refl c, LSub.refl l⟩
theorem PSub.refl : ∀ p, PSub p p
  | .one c => CSub.refl c
  | .agg l => LSub.refl l
theorem Rel.sub {Φ : Frz} {v : Value} {c d : Cell} (h : Rel Φ v c) (hc : CSub c d) : Rel Φ v d := by
  cases hc with
  | refl => exact h
  | nil => cases h; exact .sl0
theorem RelL.sub {Φ : Frz} : ∀ {vs : List Value} {cs ds : List Cell}, RelL Φ vs cs → LSub cs ds → RelL Φ vs ds
  | [], [], [], _, _ => trivial
  | _ :: _, _ :: _, _ :: _, h, h' => ⟨h.1.sub h'.1, RelL.sub h.2 h'.2⟩
theorem PRel.sub {Φ : Frz} {v : Value} {p q : PV} (h : PRel Φ v p) (hp : PSub p q) : PRel Φ v q := by
  cases p with
  | one c => cases q with
    | one d => exact Rel.sub h hp
    | agg _ => exact hp.elim
  | agg cs => cases q with
    | one d => exact hp.elim
    | agg ds => obtain ⟨arr, h1, h2⟩ := h; exact ⟨arr, h1, h2.sub hp⟩
/-- The arguments of a call. -/
def EvL (A : St) (p : Prop) : List Operand → List PV → Prop
  | [], [] => True
  | x :: xs, q :: qs => (∃ av r, Ev A p x av ∧ toPV A.blks av = some r ∧ PSub r q) ∧ EvL A p xs qs
  | _, _ => False
def EvD (A : St) (p : Prop) : List Operand → List PV → Prop
  | [], [] => True
  | x :: xs, q :: qs => (∃ r, Ev A p x (.pv r) ∧ PSub r q) ∧ EvD A p xs qs
  | _, _ => False
theorem evl_len {p : Prop} : ∀ {xs : List Operand} {qs : List PV}, EvL A p xs qs → xs.length = qs.length
  | [], [], _ => rfl
  | _ :: _, _ :: _, h => by simp [evl_len h.2]
theorem evd_len {p : Prop} : ∀ {xs : List Operand} {qs : List PV}, EvD A p xs qs → xs.length = qs.length
  | [], [], _ => rfl
  | _ :: _, _ :: _, h => by simp [evd_len h.2]
theorem evl_args (hs : Sat G Φ β A a w) {p : Prop} (hp : p) : ∀ {xs : List Operand} {qs : List PV}, EvL A p xs qs → ∀ (j : Nat) (q : PV), qs[j]? = some q → ∃ x, xs[j]? = some x ∧ PRel (frzAll Φ β A.blks w) (a.eval x) q
  | [], [], _, j, q, h => by simp at h
  | x :: xs, q0 :: qs, ⟨⟨av, r, h1, h2, h3⟩, _⟩, 0, q, h => by
    simp at h; subst h
    exact ⟨x, rfl, (hs.toPV (hs.ev h1 hp) h2).sub h3⟩
  | x :: xs, q0 :: qs, h, j + 1, q, hq => by simpa using evl_args hs hp h.2 j q (by simpa using hq)
theorem evd_args (hs : Sat G Φ β A a w) {p : Prop} (hp : p) : ∀ {xs : List Operand} {qs : List PV}, EvD A p xs qs → ∀ (j : Nat) (q : PV), qs[j]? = some q → ∃ x, xs[j]? = some x ∧ PRel Φ (a.eval x) q
  | [], [], _, j, q, h => by simp at h
  | x :: xs, q0 :: qs, ⟨⟨r, h1, h2⟩, _⟩, 0, q, hq => by
    simp at hq; subst hq
    exact ⟨x, rfl, PRel.sub (hs.ev h1 hp) h2⟩
  | x :: xs, q0 :: qs, h, j + 1, q, hq => by simpa using evd_args hs hp h.2 j q (by simpa using hq)
theorem AVRel.ret_flat {Φ Φ' : Frz} {β : Own} {bl : List (Nat × Blk)} {v : Value} {r : AV} (h : AVRel Φ (fun _ => none) [] v r) (hf : r.flat = true) : AVRel Φ' β bl v r := by
  cases r with
  | pv p => exact PRel.flat h hf
  | tup l =>
    obtain ⟨arr, h1, h2, h3⟩ := h
    refine ⟨arr, h1, h2, fun j q hq => ?_⟩
    obtain ⟨u, h4, h5⟩ := h3 j q hq
    exact ⟨u, h4, h5.flat (List.all_eq_true.1 hf q (List.mem_of_getElem? hq))⟩
  | addr n i off => simp [AV.flat] at hf
  | slc n => simp [AV.flat] at hf
  | top => simp [AV.flat] at hf
  | mp n => simp [AV.flat] at hf
  | mpn n bb => simp [AV.flat] at hf
  | itr d n => simp [AV.flat] at hf
  | pin n b c f => simp [AV.flat] at hf
theorem AVRel.ret {Φ : Frz} {β : Own} {bl : List (Nat × Blk)} {v : Value} {r : AV} (h : AVRel Φ (fun _ => none) [] v r) : AVRel Φ β bl v r := by
  cases r with
  | pv p => exact h
  | tup l => exact h
  | addr n i off => obtain ⟨b, cap, B, h1, _⟩ := h; cases h1
  | slc n => obtain ⟨B, h1, _⟩ := h; cases h1
  | mp n => obtain ⟨_, _, B, _, h1, _⟩ := h; cases h1
  | mpn n bb => obtain ⟨_, _, B, _, h1, _⟩ := h; cases h1
  | itr d n => obtain ⟨_, _, B, _, _, _, h1, _⟩ := h; cases h1
  | pin n b c f => obtain ⟨B, h1, _⟩ := h; cases h1
  | top => trivial
theorem call_run {f : FuncId} {xs : List Operand} {ats : Array TypeId} {o : Oper} (ho : o.op = .call { callee := .value (.func f), args := xs.toArray, argTypes := ats }) (hf : FnOK P f) :
    (execOp a.eval o).run P w = .ok (.enter f (xs.map a.eval).toArray) w := by
  obtain ⟨fn, h1, h2, h3⟩ := hf
  have e : execOp a.eval o = (do let d ← resolve a.eval { callee := .value (.func f), args := xs.toArray, argTypes := ats } o.type; invoke d.target d.args) := by simp only [execOp, ho]
  rw [e]
  have e3 : a.eval (.func f) = .func (.func f) #[] #[] := rfl
  have h2' : ¬ fn.name = "runtime.NumGoroutine" := by simpa using h2
  have h3' : ¬ fn.body = none := by intro hx; rw [hx] at h3; cases h3
  simp only [resolve, e3, Deferred.ofValue, pure_bind, invoke, callFunc]
  simp [h1, h2', h3']
theorem P_call {o : Oper} {p : Prop} {f : FuncId} {xs : List Operand} {ats : Array TypeId} {ps : List PV} {r : AV} (ho : o.op = .call { callee := .value (.func f), args := xs.toArray, argTypes := ats })
    (hx : EvL A p xs ps) (hf : FnOK P f) (hc : p → ACalls P f ps r) (hr : r.flat = true) : PureOp P G A o p r := fun Φ β a w hs hp => by
  unfold Oper.wp
  rw [call_run ho hf]
  refine Calls.mono ((hc hp).calls (frzAll Φ β A.blks w) w _ hs.frz_fits ⟨by simp [evl_len hx], fun j q hq => ?_⟩) ?_
  · obtain ⟨x, h1, h2⟩ := evl_args hs hp hx j q hq
    exact ⟨a.eval x, by simp [h1], h2⟩
  · rintro e w' ⟨v, Φ', rfl, hv, hle, heq, hfit, hb⟩
    refine ⟨v, Φ, rfl, hv.ret_flat hr, Φ.le_refl, fun _ _ => rfl, fun b c h => ?_, hb⟩
    obtain ⟨E, fz, hw⟩ := hs.fits b c h
    exact ⟨E, fz, by rw [hb.block b (Array.getElem?_eq_some_iff.1 hw).1]; exact hw⟩
theorem P_calld {o : Oper} {p : Prop} {f : FuncId} {xs : List Operand} {ats : Array TypeId} {ps : List PV} {r : AV} (ho : o.op = .call { callee := .value (.func f), args := xs.toArray, argTypes := ats })
    (hx : EvD A p xs ps) (hf : FnOK P f) (hc : p → ACalls P f ps r) : PureOp P G A o p r := fun Φ β a w hs hp => by
  unfold Oper.wp
  rw [call_run ho hf]
  refine Calls.mono ((hc hp).calls Φ w _ hs.fits ⟨by simp [evd_len hx], fun j q hq => ?_⟩) ?_
  · obtain ⟨x, h1, h2⟩ := evd_args hs hp hx j q hq
    exact ⟨a.eval x, by simp [h1], h2⟩
  · rintro e w' ⟨v, Φ', rfl, hv, hle, heq, hfit, hb⟩
    exact ⟨v, Φ', rfl, hv.ret, hle, heq, hfit, hb⟩
def initEnv : List PV → Nat → List (Nat × (Prop × AV))
  | [], _ => []
  | q :: qs, k => (k, (True, .pv q)) :: initEnv qs (k + 1)
theorem lk_init : ∀ (args : List PV) (k t : Nat) (q : Prop) (v : AV), lk (initEnv args k) t = some (q, v) → k ≤ t ∧ q = True ∧ ∃ p, args[t - k]? = some p ∧ v = .pv p
  | [], k, t, q, v, h => by simp [initEnv, lk] at h
  | x :: xs, k, t, q, v, h => by
    rw [initEnv, lk_cons] at h
    split at h
    · rename_i e; subst e
      simp only [Option.some.injEq, Prod.mk.injEq] at h
      exact ⟨Nat.le_refl _, h.1.symm, x, by simp, h.2.symm⟩
    · rename_i e
      obtain ⟨h1, h2, p, h3, h4⟩ := lk_init xs (k + 1) t q v h
      refine ⟨by omega, h2, p, ?_, h4⟩
      have : t - k = (t - (k + 1)) + 1 := by omega
      rw [this]; simpa using h3
def St.init (n : Nat) (args : List PV) : St := { n := n, env := initEnv args 0, blks := [] }
/-- The results, slot by slot. -/
def ResL (A : St) : List Nat → List PV → Prop
  | [], [] => True
  | t :: ts, q :: qs => (∃ av r, lk A.env t = some (True, av) ∧ toPV A.blks av = some r ∧ PSub r q) ∧ ResL A ts qs
  | _, _ => False
theorem resl_get (hs : Sat G Φ β A a w) : ∀ {ts : List Nat} {qs : List PV}, ResL A ts qs → ∀ (j : Nat) (q : PV), qs[j]? = some q → ∃ t, ts[j]? = some t ∧ PRel (frzAll Φ β A.blks w) (a.tmps.getD t undef) q
  | [], [], _, j, q, h => by simp at h
  | t :: ts, q0 :: qs, ⟨⟨av, r, h1, h2, h3⟩, _⟩, 0, q, h => by
    simp at h; subst h
    exact ⟨t, rfl, (hs.toPV ((hs.env t True av h1).1 trivial) h2).sub h3⟩
  | x :: xs, q0 :: qs, h, j + 1, q, hq => by simpa using resl_get hs h.2 j q (by simpa using hq)
theorem resl_len : ∀ {ts : List Nat} {qs : List PV}, ResL A ts qs → ts.length = qs.length
  | [], [], _ => rfl
  | _ :: _, _ :: _, h => by simp [resl_len h.2]
def ofRes : List PV → AV
  | [q] => .pv q
  | l => .tup l
/-- What the end of a function must show. -/
def Fin (ts : List Nat) (qs : List PV) (e : Exit) (A : St) : Prop := (e = .normal ∨ e = .ret) ∧ ResL A ts qs
theorem Fin.ret {ts : List Nat} {qs : List PV} (h : ResL A ts qs) : Fin ts qs .ret A := ⟨.inr rfl, h⟩
def resV (tmps : Array Value) : List Nat → Value
  | [t] => tmps.getD t undef
  | ts => .tuple (ts.map fun t => tmps.getD t undef).toArray
theorem mapM_tmp {f : ResultVar → Sem Value} {tmps : Array Value} (hf : ∀ t, f (.tmp t) = pure (tmps.getD t undef)) (l : List Nat) : (l.map ResultVar.tmp).toArray.mapM f = pure (l.map fun t => tmps.getD t undef).toArray := by
  rw [List.mapM_toArray]
  have : ∀ l : List Nat, (l.map ResultVar.tmp).mapM f = pure (l.map fun t => tmps.getD t undef) := by
    intro l
    induction l with
    | nil => rfl
    | cons x xs ih => simp only [List.map_cons, List.mapM_cons, hf, ih, pure_bind]
  rw [this]; rfl
theorem run_results {fn : Func} {ts : List Nat} (h : fn.results = (ts.map ResultVar.tmp).toArray) (tmps : Array Value) (w : World) :
    (results fn tmps).run P w = .ok (resV tmps ts) w := by
  unfold results
  rw [h, mapM_tmp (tmps := tmps) (fun t => rfl)]
  match ts with
  | [] => simp [resV]
  | [t] => simp [resV]
  | t :: u :: rest => simp [resV]
theorem ACalls.of_W {f : FuncId} {fn : Func} {c : Code} {args qs : List PV} (ts : List Nat) (n : Nat) (hf : P.funcs[f]? = some fn) (hn : (fn.name == "runtime.NumGoroutine") = false) (hb : fn.body = some c)
    (hr : fn.results = (ts.map ResultVar.tmp).toArray) (hnt : fn.ntmps = n) (h : ∀ G, W P G c (Fin ts qs) (St.init n args)) : ACalls P f args (ofRes qs) where
  fn := ⟨fn, hf, hn, by rw [hb]; rfl⟩
  calls := fun Φ w vs hfit harg => by
    let G : Ghost := { w0 := w, K := fun b => b < w.heap.size, F0 := Φ, lt := fun b h => h }
    subst hnt
    refine calls_of_wp hf hb (wp_mono (h G Φ (fun _ => none) _ w ?_) fun e a' w' ⟨A', Φ', β', ⟨he, hres⟩, hs, hle⟩ => ?_)
    · refine ⟨⟨rfl, rfl, rfl, Nat.le_refl _, fun b _ => rfl⟩, hfit, fun b _ => rfl, by simp [St.init]; omega, rfl, fun t q v hl => ?_, fun n B b cap h1 => by simp [St.init, lk] at h1, fun n B h1 => by simp [St.init, lk] at h1, fun n n' B B' b cap cap' h1 => by simp [St.init, lk] at h1⟩
      obtain ⟨_, rfl, p, hp, rfl⟩ := lk_init args 0 t q v hl
      refine ⟨fun _ => ?_, fun hq => (hq trivial).elim⟩
      obtain ⟨v, h1, h2⟩ := harg.2 (t - 0) p hp
      have hlt := (Array.getElem?_eq_some_iff.1 h1).1
      have : (vs ++ Array.replicate (fn.ntmps - vs.size) undef).getD t undef = v := by
        rw [Array.getD_eq_getD_getElem?, Array.getElem?_append_left (by simpa using hlt)]
        simp only [Nat.sub_zero] at h1
        rw [h1]; rfl
      show PRel Φ _ p
      rw [this]; exact h2
    · have hv : a'.defers = [] ∧ ∃ v, (results fn a'.tmps).run P w' = .ok v w' ∧ (∃ v1 Φ'', Ending.returned v = .returned v1 ∧ AVRel Φ'' (fun _ => none) [] v1 (ofRes qs) ∧ Φ.le Φ'' ∧ (∀ b, b < w.heap.size → Φ'' b = Φ b) ∧ Fits Φ'' w' ∧ Below w.heap.size w w') := by
        refine ⟨hs.dfr, _, run_results hr _ _, _, frzAll Φ' β' A'.blks w', rfl, ?_, Frz.le_trans hle hs.frz_le, fun b hb => ?_, hs.frz_fits, ⟨hs.kept.os, hs.kept.tape, hs.kept.output, hs.kept.size, hs.kept.block⟩⟩
        · have hl := resl_len hres
          match ts, qs, hres, hl with
          | [], [], _, _ => exact ⟨#[], rfl, rfl, fun j p h => by simp at h⟩
          | [t], [q], hres, _ =>
            obtain ⟨t', h1, h2⟩ := resl_get hs hres 0 q rfl
            simp at h1; subst h1
            exact h2
          | t :: t2 :: ts, q :: q2 :: qs, hres, hl =>
            refine ⟨_, rfl, by simpa using hl, fun j p hp => ?_⟩
            obtain ⟨t', h1, h2⟩ := resl_get hs hres j p hp
            exact ⟨_, by simp only [List.getElem?_toArray, List.getElem?_map, h1]; rfl, h2⟩
        · -- an old block is not owned, and no new frozen one
          have hk : G.K b := hb
          have hno : ¬ ownedBy β' A'.blks b := fun ⟨n, B, cap, h1, h2⟩ => (hs.blk n B b cap h1 h2).2.1 hk
          unfold frzAll
          rw [if_neg hno]
          exact hs.old b hk
      rcases he with rfl | rfl
      · exact hv
      · exact hv
end
end Lf
end
section
set_option linter.unusedVariables false
set_option linter.unusedSimpArgs false
namespace Lf
open Go Go.RowKit
def AV.ment (n : Nat) : AV → Bool
  | .addr m _ _ => Nat.beq m n
  | .slc m => Nat.beq m n
  | .mp m => Nat.beq m n
  | .mpn m _ => Nat.beq m n
  | .itr d m => Nat.beq d n || Nat.beq m n
  | .pin m _ _ _ => Nat.beq m n
  | _ => false
/-- Nothing is known any more of what named block n. -/
def fgt (n : Nat) : List (Nat × (Prop × AV)) → List (Nat × (Prop × AV))
  | [] => []
  | (t, (q, v)) :: r => (t, (q, bif v.ment n then .top else v)) :: fgt n r
theorem lk_fgt (n : Nat) : ∀ (env : List (Nat × (Prop × AV))) (t : Nat) (q : Prop) (v : AV), lk (fgt n env) t = some (q, v) → ∃ v', lk env t = some (q, v') ∧ v = bif v'.ment n then .top else v'
  | [], t, q, v, h => by simp [fgt, lk] at h
  | (s, (q0, v0)) :: r, t, q, v, h => by
    rw [fgt, lk_cons] at h
    rw [lk_cons]
    split at h
    · rename_i e
      simp only [Option.some.injEq, Prod.mk.injEq] at h
      rw [if_pos e]
      exact ⟨v0, by rw [h.1], h.2.symm⟩
    · rename_i e
      rw [if_neg e]
      exact lk_fgt n r t q v h
def deadBlk : Blk := ⟨0, 0, []⟩
/-- Name d now names a block; name n names nothing any more. -/
def St.bind (A : St) (d n : Nat) (B : Blk) : St := { n := A.n, env := fgt d (fgt n A.env), blks := (d, B) :: (n, deadBlk) :: A.blks }
def bindOwn (β : Own) (d n b cap : Nat) : Own := fun m => if m = d then some (b, cap) else if m = n then none else β m
section
variable {P : Program} {G : Ghost} {A : St} {Φ : Frz} {β : Own} {a : Act} {w w' : World}
theorem AVRel.bind {v : Value} {x : AV} {d n b cap : Nat} {B : Blk} (h : AVRel Φ β A.blks v x) (hd : x.ment d = false) (hn : x.ment n = false) :
    AVRel Φ (bindOwn β d n b cap) ((d, B) :: (n, deadBlk) :: A.blks) v x := by
  have hl : ∀ m, m ≠ d → m ≠ n → lk ((d, B) :: (n, deadBlk) :: A.blks) m = lk A.blks m := fun m h1 h2 => by rw [lk_cons, if_neg (Ne.symm h1), lk_cons, if_neg (Ne.symm h2)]
  have hb : ∀ m, m ≠ d → m ≠ n → bindOwn β d n b cap m = β m := fun m h1 h2 => by simp [bindOwn, h1, h2]
  cases x with
  | pv p => exact h
  | tup l => exact h
  | top => trivial
  | addr m i off =>
    have h1 : m ≠ d := fun e => by subst e; simp [AV.ment] at hd
    have h2 : m ≠ n := fun e => by subst e; simp [AV.ment] at hn
    obtain ⟨b', cap', B', g1, g2, g3⟩ := h
    exact ⟨b', cap', B', by rw [hb m h1 h2]; exact g1, by rw [hl m h1 h2]; exact g2, g3⟩
  | slc m =>
    have h1 : m ≠ d := fun e => by subst e; simp [AV.ment] at hd
    have h2 : m ≠ n := fun e => by subst e; simp [AV.ment] at hn
    obtain ⟨B', g2, g3⟩ := h
    refine ⟨B', by rw [hl m h1 h2]; exact g2, ?_⟩
    rw [hb m h1 h2]; exact g3
  | mp m =>
    have h1 : m ≠ d := fun e => by subst e; simp [AV.ment] at hd
    have h2 : m ≠ n := fun e => by subst e; simp [AV.ment] at hn
    obtain ⟨b', cap', B', g1, g2, g3⟩ := h
    exact ⟨b', cap', B', by rw [hb m h1 h2]; exact g1, by rw [hl m h1 h2]; exact g2, g3⟩
  | mpn m bb =>
    have h1 : m ≠ d := fun e => by subst e; simp [AV.ment] at hd
    have h2 : m ≠ n := fun e => by subst e; simp [AV.ment] at hn
    obtain ⟨b', cap', B', g1, g2, g3⟩ := h
    exact ⟨b', cap', B', by rw [hb m h1 h2]; exact g1, by rw [hl m h1 h2]; exact g2, g3⟩
  | itr e m =>
    have h1 : m ≠ d := fun e => by subst e; simp [AV.ment] at hd
    have h2 : m ≠ n := fun e => by subst e; simp [AV.ment] at hn
    have h3 : e ≠ d := fun e => by subst e; simp [AV.ment] at hd
    have h4 : e ≠ n := fun e => by subst e; simp [AV.ment] at hn
    obtain ⟨b', cap', B', M, c, g1, g2, g3, g4, g5, g6⟩ := h
    exact ⟨b', cap', B', M, c, by rw [hb e h3 h4]; exact g1, by rw [hl e h3 h4]; exact g2, g3, by rw [hb m h1 h2]; exact g4, by rw [hl m h1 h2]; exact g5, g6⟩
  | pin m b0 c0 f =>
    have h1 : m ≠ d := fun e => by subst e; simp [AV.ment] at hd
    have h2 : m ≠ n := fun e => by subst e; simp [AV.ment] at hn
    obtain ⟨B', g1, g2, g3⟩ := h
    exact ⟨B', by rw [hb m h1 h2]; exact g1, by rw [hl m h1 h2]; exact g2, g3⟩
theorem Sat.bind (hs : Sat G Φ β A a w) {d n b cap : Nat} {B : Blk} {row : Option Nat} (hg : w.grownBy w' row) (hrow : ∀ k, row = some k → k = b) (hb : BlkRel Φ w' b cap B) (hK : ¬ G.K b) (hP : Φ b = none)
    (hoth : ∀ m B' cap', m ≠ d → m ≠ n → lk A.blks m = some B' → β m ≠ some (b, cap')) : Sat G Φ (bindOwn β d n b cap) (A.bind d n B) a w' where
  kept := ⟨hg.os.trans hs.kept.os, hg.tape.trans hs.kept.tape, hg.output.trans hs.kept.output, Nat.le_trans hs.kept.size hg.size, fun k hk => by
    rw [hg.block k (Nat.lt_of_lt_of_le (G.lt k hk) hs.kept.size) (fun e => hK (hrow k e.symm ▸ hk))]; exact hs.kept.block k hk⟩
  fits := fun k c hk => by
    obtain ⟨E, fz, h⟩ := hs.fits k c hk
    exact ⟨E, fz, by rw [hg.block k (Array.getElem?_eq_some_iff.1 h).1 (fun e => by rw [hrow k e.symm] at hk; rw [hP] at hk; cases hk)]; exact h⟩
  old := hs.old
  siz := hs.siz
  dfr := hs.dfr
  env := fun t q v h => by
    obtain ⟨v1, h1, rfl⟩ := lk_fgt d _ t q v h
    obtain ⟨v2, h2, rfl⟩ := lk_fgt n _ t q v1 h1
    refine ⟨fun hq => ?_, (hs.env t q v2 h2).2⟩
    have h3 := (hs.env t q v2 h2).1 hq
    cases hn : v2.ment n with
    | true => simp only [cond_true, AV.ment, cond_false]; trivial
    | false =>
      simp only [cond_false]
      cases hd : v2.ment d with
      | true => simp only [cond_true]; trivial
      | false => simp only [cond_false]; exact h3.bind hd hn
  blk := fun m B' b' cap' h1 h2 => by
    simp only [St.bind, lk_cons] at h1
    simp only [bindOwn] at h2
    by_cases e1 : m = d
    · subst e1
      simp only [if_true, Option.some.injEq, Prod.mk.injEq] at h1 h2
      obtain ⟨rfl, rfl⟩ := h2
      subst h1
      exact ⟨hb, hK, hP⟩
    · rw [if_neg e1] at h2
      rw [if_neg (Ne.symm e1)] at h1
      by_cases e2 : m = n
      · subst e2; simp at h2
      · rw [if_neg e2] at h2
        rw [if_neg (Ne.symm e2)] at h1
        obtain ⟨g1, g2, g3⟩ := hs.blk m B' b' cap' h1 h2
        exact ⟨g1.keep Φ.le_refl (hg.block b' g1.lt (fun e => hoth m B' cap' e1 e2 h1 (by rw [← hrow b' e.symm]; exact h2))), g2, g3⟩
  vir := fun m B' h1 h2 => by
    simp only [St.bind, lk_cons] at h1
    simp only [bindOwn] at h2
    by_cases e1 : m = d
    · rw [if_pos e1] at h2; cases h2
    · rw [if_neg e1] at h2
      rw [if_neg (Ne.symm e1)] at h1
      by_cases e2 : m = n
      · rw [if_pos e2.symm] at h1
        simp only [Option.some.injEq] at h1
        subst h1; rfl
      · rw [if_neg e2] at h2
        rw [if_neg (Ne.symm e2)] at h1
        exact hs.vir m B' h1 h2
  inj := fun m m' B1 B2 b' c1 c2 h1 h2 h3 h4 => by
    simp only [St.bind, lk_cons] at h1 h2
    simp only [bindOwn] at h3 h4
    by_cases e1 : m = d
    · by_cases e2 : m' = d
      · rw [e1, e2]
      · exfalso
        rw [if_pos e1] at h3
        rw [if_neg e2] at h4
        rw [if_neg (Ne.symm e2)] at h2
        by_cases e3 : m' = n
        · rw [if_pos e3] at h4; cases h4
        · rw [if_neg e3] at h4
          rw [if_neg (Ne.symm e3)] at h2
          simp only [Option.some.injEq, Prod.mk.injEq] at h3
          exact hoth m' B2 c2 e2 e3 h2 (by rw [h3.1]; exact h4)
    · rw [if_neg e1] at h3
      rw [if_neg (Ne.symm e1)] at h1
      by_cases e3 : m = n
      · rw [if_pos e3] at h3; cases h3
      · rw [if_neg e3] at h3
        rw [if_neg (Ne.symm e3)] at h1
        by_cases e2 : m' = d
        · exfalso
          rw [if_pos e2] at h4
          simp only [Option.some.injEq, Prod.mk.injEq] at h4
          exact hoth m B1 c1 e1 e3 h1 (by rw [h4.1]; exact h3)
        · rw [if_neg e2] at h4
          rw [if_neg (Ne.symm e2)] at h2
          by_cases e4 : m' = n
          · rw [if_pos e4] at h4; cases h4
          · rw [if_neg e4] at h4
            rw [if_neg (Ne.symm e4)] at h2
            exact hs.inj m m' B1 B2 b' c1 c2 h1 h2 h3 h4
theorem Sat.put (hs : Sat G Φ β A a w) {d : Nat} (hd : d < A.n) {v : AV} {u : Value} (hv : AVRel Φ β A.blks u v) : Sat G Φ β (A.set d True v) (a.put (some d) u) w :=
  hs.set Φ.le_refl (fun _ _ => rfl) hs.fits (Below.refl _ _) hd (fun _ => hv) (fun h => (h trivial).elim)
theorem Sat.new_ok (hs : Sat G Φ β A a w) : ¬ G.K w.heap.size ∧ Φ w.heap.size = none ∧ ∀ (m : Nat) (B' : Blk) (cap' : Nat), lk A.blks m = some B' → β m ≠ some (w.heap.size, cap') := by
  refine ⟨fun h => ?_, ?_, fun m B' cap' h1 h2 => ?_⟩
  · have := G.lt _ h
    have := hs.kept.size
    omega
  · cases h : Φ w.heap.size with
    | none => rfl
    | some c =>
      obtain ⟨E, fz, hw⟩ := hs.fits _ c h
      have := (Array.getElem?_eq_some_iff.1 hw).1
      omega
  · have := (hs.blk m B' _ cap' h1 h2).1.lt
    omega
theorem EffOp.of_val {o : Oper} {A' : St} (h : ∀ Φ β a w, Sat G Φ β A a w → ∃ u w' Φ' β', (execOp a.eval o).run P w = .ok (.value u) w' ∧ Sat G Φ' β' A' (a.put o.dst u) w' ∧ Φ.le Φ') : EffOp P G A o A' := fun Φ β a w hs => by
  obtain ⟨u, w', Φ', β', h1, h2, h3⟩ := h Φ β a w hs
  unfold Oper.wp
  rw [h1]
  exact ⟨Φ', β', h2, h3⟩
theorem EffOp.of_skip {o : Oper} {A' : St} (hd : o.dst = none) (h : ∀ Φ β a w, Sat G Φ β A a w → ∃ w' Φ' β', (execOp a.eval o).run P w = .ok .skip w' ∧ Sat G Φ' β' A' a w' ∧ Φ.le Φ') : EffOp P G A o A' := fun Φ β a w hs => by
  obtain ⟨w', Φ', β', h1, h2, h3⟩ := h Φ β a w hs
  unfold Oper.wp
  rw [h1]
  show ∃ Φ' β', Sat G Φ' β' A' (a.put o.dst undef) w' ∧ Φ.le Φ'
  rw [hd]
  exact ⟨Φ', β', h2, h3⟩
/-- A new block, named by the slot in which its pointer comes to lie. -/
theorem Sat.alloc (hs : Sat G Φ β A a w) {d cap : Nat} {B : Blk} {cur : Array Value} (hob : B.ob = false) (hsz : cur.size = cap * B.sz) (hlen : B.rows.length ≤ cap) (hcap : cap ≤ maxLen) (hr : ∀ r ∈ B.rows, r.length = B.sz)
    (hc : ∀ (i j : Nat) (r : List Cell) (x : Cell), B.rows[i]? = some r → r[j]? = some x → ∃ v, cur[i * B.sz + j]? = some v ∧ Rel Φ v x) :
    Sat G Φ (bindOwn β d d w.heap.size cap) (A.bind d d B) a (w.alloc (.cells cur B.E)) := by
  obtain ⟨h1, h2, h3⟩ := hs.new_ok
  exact hs.bind (w.grownBy_alloc _ none) (fun k e => by cases e) (.inl ⟨hob, cur, heap_alloc_new w _, hlen, hcap, hsz, hr, hc⟩) h1 h2 (fun m B' cap' _ _ h => h3 m B' cap' h)
theorem relL_get' {vs : Array Value} {cs : List Cell} (h : RelL Φ vs.toList cs) {j : Nat} {c : Cell} (hj : cs[j]? = some c) : ∃ v, vs[j]? = some v ∧ Rel Φ v c := by
  obtain ⟨v, h1, h2⟩ := h.get hj
  exact ⟨v, by simpa using h1, h2⟩
theorem one_row {z : Array Value} {cs : List Cell} (hz : RelL Φ z.toList cs) (i j : Nat) (r : List Cell) (x : Cell) (hi : [cs][i]? = some r) (hj : r[j]? = some x) : ∃ v, z[i * cs.length + j]? = some v ∧ Rel Φ v x := by
  match i with
  | 0 => simp at hi; subst hi; simpa using relL_get' hz hj
  | i + 1 => simp at hi
variable {T : TT} (hT : TOK P T)
include hT
theorem E_alloc {o : Oper} {t d : Nat} {ti : TI} (ho : o.op = .alloc t) (hd : o.dst = some d) (hn : d < A.n) (ht : T t = some ti) (hz : ti.zero.cells.length = ti.sz) :
    EffOp P G A o ((A.bind d d ⟨t, ti.sz, [ti.zero.cells]⟩).set d True (.addr d 0 0)) := EffOp.of_val fun Φ β a w hs => by
  obtain ⟨i, hi, hsz, _, z, hzz, hrel⟩ := (hT t ti ht).info
  have hr := (hrel Φ).cells
  have hlen : z.cells.size = ti.sz := by have := hr.length; rw [← hz, ← this]; simp
  have hrun : (execOp a.eval o).run P w = .ok (.value (.pointer (some ⟨w.heap.size, 0, none⟩))) (w.alloc (.cells z.cells t)) :=
    exec_val (m := Instr.alloc t true (.tuple #[])) (by simp only [execOp, ho]) (by simp [Instr.alloc, zeroValue, typeInfo, hi, hzz, newVar, newRow])
  refine ⟨_, _, Φ, bindOwn β d d w.heap.size 1, hrun, ?_, Φ.le_refl⟩
  rw [hd]
  have hob : Blk.ob ⟨t, ti.sz, [ti.zero.cells]⟩ = false := (hT t ti ht).small
  refine Sat.put (hs.alloc (d := d) (cap := 1) (B := ⟨t, ti.sz, [ti.zero.cells]⟩) (cur := z.cells) hob (by simpa using hlen) (by simp) (by simp [maxLen]) (by simp [hz]) (fun i j r x hi hj => ?_)) hn ⟨w.heap.size, 1, ⟨t, ti.sz, [ti.zero.cells]⟩, by simp [bindOwn], by simp [St.bind, lk_cons], hob, by simp⟩
  have := one_row hr i j r x hi hj
  rw [hz] at this
  exact this
omit hT in
theorem E_box {o : Oper} {t d : Nat} {x : Operand} {q : PV} (hsm : Nat.ble mapTag t = false) (ho : o.op = .box t x) (hd : o.dst = some d) (hn : d < A.n) (hx : Ev A True x (.pv q)) :
    EffOp P G A o ((A.bind d d ⟨t, q.cells.length, [q.cells]⟩).set d True (.addr d 0 0)) := EffOp.of_val fun Φ β a w hs => by
  have hr := PRel.cells (show PRel Φ (a.eval x) q from hs.ev hx trivial)
  have hlen : (a.eval x).cells.size = q.cells.length := by have := hr.length; rw [← this]; simp
  have hrun : (execOp a.eval o).run P w = .ok (.value (.pointer (some ⟨w.heap.size, 0, none⟩))) (w.alloc (.cells (a.eval x).cells t)) :=
    exec_val (m := Instr.box t (a.eval x)) (by simp only [execOp, ho]) (by simp [Instr.box, newVar, newRow])
  refine ⟨_, _, Φ, bindOwn β d d w.heap.size 1, hrun, ?_, Φ.le_refl⟩
  rw [hd]
  exact Sat.put (hs.alloc (d := d) (cap := 1) (B := ⟨t, q.cells.length, [q.cells]⟩) (cur := (a.eval x).cells) hsm (by simpa using hlen) (by simp) (by simp [maxLen]) (by simp) (fun i j r x hi hj => one_row hr i j r x hi hj)) hn ⟨w.heap.size, 1, ⟨t, q.cells.length, [q.cells]⟩, by simp [bindOwn], by simp [St.bind, lk_cons], hsm, by simp⟩
omit hT in
/-- The block of a name is turned in place. -/
theorem Sat.turn (hs : Sat G Φ β A a w) {n b cap : Nat} {B : Blk} {rows : List (List Cell)} {cur : Array Value} (h1 : lk A.blks n = some B) (h2 : β n = some (b, cap)) (hob : B.ob = false) (hsz : cur.size = cap * B.sz) (hlen : rows.length = B.rows.length) (hr : ∀ r ∈ rows, r.length = B.sz)
    (hc : ∀ (i j : Nat) (r : List Cell) (x : Cell), rows[i]? = some r → r[j]? = some x → ∃ v, cur[i * B.sz + j]? = some v ∧ Rel Φ v x) :
    Sat G Φ β { A with blks := (n, { B with rows := rows }) :: A.blks } a (w.setRow b cur) := by
  obtain ⟨gB, gK, gP⟩ := hs.blk n B b cap h1 h2
  obtain ⟨old, g1, g2, g3, g4, g5, g6⟩ := gB.cells hob
  have hoth : ∀ k, k ≠ b → (w.setRow b cur).heap[k]? = w.heap[k]? := fun k hk => setRow_other w b k cur hk
  have hl : ∀ m, m ≠ n → lk ((n, ({ B with rows := rows } : Blk)) :: A.blks) m = lk A.blks m := fun m hm => by rw [lk_cons, if_neg (Ne.symm hm)]
  refine ⟨⟨hs.kept.os, hs.kept.tape, hs.kept.output, by simpa [World.setRow] using hs.kept.size, fun k hk => ?_⟩, fun k c hk => ?_, hs.old, hs.siz, hs.dfr, fun t q v h => ?_, fun m B' b' cap' k1 k2 => ?_, fun m B' k1 k2 => ?_, fun m m' B1 B2 b' c1 c2 k1 k2 k3 k4 => ?_⟩
  · rw [hoth k (fun e => gK (e ▸ hk))]; exact hs.kept.block k hk
  · obtain ⟨E, fz, h⟩ := hs.fits k c hk
    exact ⟨E, fz, by rw [hoth k (fun e => by rw [e, gP] at hk; cases hk)]; exact h⟩
  · refine ⟨fun hq => ?_, (hs.env t q v h).2⟩
    have h3 := (hs.env t q v h).1 hq
    cases v with
    | pv p => exact h3
    | tup l => exact h3
    | top => trivial
    | mp m =>
      obtain ⟨b', cap', B', k1, k2, k3, k4⟩ := h3
      have e : m ≠ n := fun e => by
        subst e
        rw [h1] at k2
        obtain rfl := Option.some.inj k2
        rw [ob_map k3] at hob; cases hob
      exact ⟨b', cap', B', k1, by rw [hl m e]; exact k2, k3, k4⟩
    | mpn m bb =>
      obtain ⟨b', cap', B', k1, k2, k3, k4⟩ := h3
      have e : m ≠ n := fun e => by
        subst e
        rw [h1] at k2
        obtain rfl := Option.some.inj k2
        rw [ob_map k3] at hob; cases hob
      exact ⟨b', cap', B', k1, by rw [hl m e]; exact k2, k3, k4⟩
    | itr d m =>
      obtain ⟨b', cap', B', M, c, k1, k2, k3, k4, k5, k6, k7⟩ := h3
      have e : m ≠ n := fun e => by
        subst e
        rw [h1] at k5
        obtain rfl := Option.some.inj k5
        rw [ob_map k6] at hob; cases hob
      have e' : d ≠ n := fun e => by
        subst e
        rw [h1] at k2
        obtain rfl := Option.some.inj k2
        rw [ob_iter k3] at hob; cases hob
      exact ⟨b', cap', B', M, c, k1, by rw [hl d e']; exact k2, k3, k4, by rw [hl m e]; exact k5, k6, k7⟩
    | addr m i off =>
      obtain ⟨b', cap', B', k1, k2, k3⟩ := h3
      by_cases e : m = n
      · subst e
        obtain rfl : B = B' := by rw [h1] at k2; exact Option.some.inj k2
        exact ⟨b', cap', { B with rows := rows }, k1, by rw [lk_cons, if_pos rfl], k3⟩
      · exact ⟨b', cap', B', k1, by rw [hl m e]; exact k2, k3⟩
    | pin m b0 c0 f =>
      obtain ⟨B', k1, k2, k3⟩ := h3
      by_cases e : m = n
      · subst e
        obtain rfl : B = B' := by rw [h1] at k2; exact Option.some.inj k2
        exact ⟨{ B with rows := rows }, k1, by rw [lk_cons, if_pos rfl], k3.1, by simp only [hlen]; exact k3.2⟩
      · exact ⟨B', k1, by rw [hl m e]; exact k2, k3⟩
    | slc m =>
      obtain ⟨B', k1, k2⟩ := h3
      by_cases e : m = n
      · subst e
        obtain rfl : B = B' := by rw [h1] at k1; exact Option.some.inj k1
        refine ⟨{ B with rows := rows }, by rw [lk_cons, if_pos rfl], k2.1, ?_⟩
        simp only [hlen]; exact k2.2
      · exact ⟨B', by rw [hl m e]; exact k1, k2⟩
  · by_cases e : m = n
    · subst e
      rw [lk_cons, if_pos rfl] at k1
      obtain rfl := Option.some.inj k1
      rw [h2] at k2
      simp only [Option.some.injEq, Prod.mk.injEq] at k2
      obtain ⟨rfl, rfl⟩ := k2
      exact ⟨.inl ⟨hob, cur, setRow_heap w b old cur _ _ g1, by simpa [hlen] using g2, g3, hsz, hr, hc⟩, gK, gP⟩
    · rw [hl m e] at k1
      obtain ⟨q1, q3, q4⟩ := hs.blk m B' b' cap' k1 k2
      exact ⟨q1.keep Φ.le_refl (hoth b' (fun e' => e (hs.inj m n B' B b' cap' cap k1 h1 k2 (by rw [e']; exact h2)))), q3, q4⟩
  · by_cases e : m = n
    · subst e; rw [h2] at k2; cases k2
    · rw [hl m e] at k1; exact hs.vir m B' k1 k2
  · have r1 : ∃ B1', lk A.blks m = some B1' := by
      by_cases e : m = n
      · exact ⟨B, e ▸ h1⟩
      · exact ⟨B1, by rw [hl m e] at k1; exact k1⟩
    have r2 : ∃ B2', lk A.blks m' = some B2' := by
      by_cases e : m' = n
      · exact ⟨B, e ▸ h1⟩
      · exact ⟨B2, by rw [hl m' e] at k2; exact k2⟩
    obtain ⟨_, r1⟩ := r1
    obtain ⟨_, r2⟩ := r2
    exact hs.inj m m' _ _ b' c1 c2 r1 r2 k3 k4
/-- Cells put into a row. -/
def splice (r : List Cell) (off : Nat) (cs : List Cell) : List Cell := r.take off ++ cs ++ r.drop (off + cs.length)
omit hT in
theorem splice_len {r : List Cell} {off : Nat} {cs : List Cell} (h : off + cs.length ≤ r.length) : (splice r off cs).length = r.length := by
  simp [splice]; omega
theorem E_storeG {o : Oper} {t n i off : Nat} {x y : Operand} {ti : TI} {B : Blk} {r : List Cell} {q : PV} (ho : o.op = .store t x y) (hd : o.dst = none) (ht : T t = some ti)
    (hx : Ev A True x (.addr n i off)) (hy : ∀ Φ β a w, Sat G Φ β A a w → PRel Φ (a.eval y) q) (hl : lk A.blks n = some B) (hr : B.rows[i]? = some r) (hq : q.cells.length = ti.sz) (hfit : off + ti.sz ≤ r.length) :
    EffOp P G A o { A with blks := (n, { B with rows := B.rows.set i (splice r off q.cells) }) :: A.blks } := EffOp.of_skip hd fun Φ β a w hs => by
  obtain ⟨b, cap, B', h1, h2, hob, h3⟩ := hs.ev hx trivial
  obtain rfl : B = B' := by rw [hl] at h2; exact Option.some.inj h2
  obtain ⟨cur, g1, g2, g3, g4, g5, g6⟩ := (hs.blk n B b cap hl h1).1.cells hob
  have hv := PRel.cells (hy Φ β a w hs)
  have hlen := hv.length
  rw [hq] at hlen
  have hrl : r.length = B.sz := g5 r (List.mem_of_getElem? hr)
  have hil : i < B.rows.length := (List.getElem?_eq_some_iff.1 hr).1
  have hmul : i * B.sz + B.sz ≤ cur.size := by
    rw [g4]
    calc i * B.sz + B.sz = (i + 1) * B.sz := by rw [Nat.add_mul, Nat.one_mul]
      _ ≤ cap * B.sz := Nat.mul_le_mul_right _ (by omega)
  have hst := run_storeCells_at P b (i * B.sz + off) B.E (a.eval y).cells.toList 0 cur w g1 (by rw [hlen]; omega) hv.oneCell
  simp only [Nat.add_zero] at hst
  have hrun : (execOp a.eval o).run P w = .ok .skip (w.setRow b (cur.toList.take (i * B.sz + off) ++ (a.eval y).cells.toList ++ cur.toList.drop (i * B.sz + off + (a.eval y).cells.toList.length)).toArray) := by
    have e : execOp a.eval o = (do Instr.storeAt t (a.eval x) (a.eval y); pure .skip) := by simp only [execOp, ho]
    have hs1 : (a.eval y).cells.size = ti.sz := by simpa using hlen
    rw [e, h3]
    simp only [Instr.storeAt, Instr.sureAddr, storeVar, pure_bind, Sem.run_bind, run_sizeOf hT ht, Result.andThen_ok, hs1, ne_eq, not_true_eq_false, if_false, hst]
    simp
  refine ⟨_, Φ, β, hrun, ?_, Φ.le_refl⟩
  refine hs.turn hl h1 hob ?_ (by simp) (fun r' hr' => ?_) (fun i' j r' c hi hj => ?_)
  · simp only [List.size_toArray, List.length_append, List.length_take, List.length_drop, hlen]
    simp only [Array.length_toList]
    omega
  · rcases List.mem_or_eq_of_mem_set hr' with h | h
    · exact g5 r' h
    · rw [h, splice_len (by rw [hq]; exact hfit), hrl]
  · rw [List.getElem?_set] at hi
    have key : ∀ k, (cur.toList.take (i * B.sz + off) ++ (a.eval y).cells.toList ++ cur.toList.drop (i * B.sz + off + (a.eval y).cells.toList.length)).toArray[k]? =
        if k < i * B.sz + off then cur[k]? else if k < i * B.sz + off + ti.sz then (a.eval y).cells[k - (i * B.sz + off)]? else cur[k]? := fun k => by
      simp only [List.getElem?_toArray, List.getElem?_append, List.length_append, List.length_take, Array.length_toList, List.getElem?_take, List.getElem?_drop, Array.getElem?_toList, hlen]
      have hm : min (i * B.sz + off) cur.size = i * B.sz + off := by omega
      rw [hm]
      by_cases k1 : k < i * B.sz + off
      · rw [if_pos (by omega), if_pos k1, if_pos k1, if_pos k1]
      · by_cases k2 : k < i * B.sz + off + ti.sz
        · rw [if_pos k2, if_neg k1, if_neg k1, if_pos k2]
        · rw [if_neg k2, if_neg k1, if_neg k2]
          congr 1; omega
    by_cases e : i = i'
    · subst e
      rw [if_pos rfl] at hi
      simp only [hil, if_true, Option.some.injEq] at hi
      subst hi
      have hjl : j < B.sz := by
        have := (List.getElem?_eq_some_iff.1 hj).1
        rw [splice_len (by rw [hq]; exact hfit), hrl] at this
        exact this
      rw [key]
      simp only [splice, List.getElem?_append, List.length_append, List.length_take, List.getElem?_take, List.getElem?_drop] at hj
      have hm : min off r.length = off := by omega
      rw [hm, hq] at hj
      by_cases k1 : j < off
      · rw [if_pos (by omega), if_pos k1, if_pos k1] at hj
        rw [if_pos (by omega)]
        exact g6 i j r c hr hj
      · by_cases k2 : j < off + ti.sz
        · rw [if_pos k2, if_neg k1] at hj
          rw [if_neg (by omega), if_pos (by omega)]
          have : i * B.sz + j - (i * B.sz + off) = j - off := by omega
          rw [this]
          exact relL_get' hv hj
        · rw [if_neg k2] at hj
          rw [if_neg (by omega), if_neg (by omega)]
          have : off + ti.sz + (j - (off + ti.sz)) = j := by omega
          rw [this] at hj
          exact g6 i j r c hr hj
    · rw [if_neg e] at hi
      obtain ⟨v, q1, q2⟩ := g6 i' j r' c hi hj
      refine ⟨v, ?_, q2⟩
      have hjl : j < B.sz := by
        have := (List.getElem?_eq_some_iff.1 hj).1
        rw [g5 r' (List.mem_of_getElem? hi)] at this
        exact this
      rw [key]
      rcases Nat.lt_or_ge i' i with h | h
      · have : i' * B.sz + B.sz ≤ i * B.sz := by
          calc i' * B.sz + B.sz = (i' + 1) * B.sz := by rw [Nat.add_mul, Nat.one_mul]
            _ ≤ i * B.sz := Nat.mul_le_mul_right _ (by omega)
        rw [if_pos (by omega)]; exact q1
      · have : i * B.sz + B.sz ≤ i' * B.sz := by
          calc i * B.sz + B.sz = (i + 1) * B.sz := by rw [Nat.add_mul, Nat.one_mul]
            _ ≤ i' * B.sz := Nat.mul_le_mul_right _ (by omega)
        rw [if_neg (by omega), if_neg (by omega)]; exact q1
theorem E_store {o : Oper} {t n i off : Nat} {x y : Operand} {ti : TI} {B : Blk} {r : List Cell} {q : PV} (ho : o.op = .store t x y) (hd : o.dst = none) (ht : T t = some ti)
    (hx : Ev A True x (.addr n i off)) (hy : Ev A True y (.pv q)) (hl : lk A.blks n = some B) (hr : B.rows[i]? = some r) (hq : q.cells.length = ti.sz) (hfit : off + ti.sz ≤ r.length) :
    EffOp P G A o { A with blks := (n, { B with rows := B.rows.set i (splice r off q.cells) }) :: A.blks } := E_storeG hT ho hd ht hx (fun Φ β a w hs => hs.ev hy trivial) hl hr hq hfit
end
end Lf
end
