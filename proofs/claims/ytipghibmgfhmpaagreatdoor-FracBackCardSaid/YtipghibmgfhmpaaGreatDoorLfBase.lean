/-
  A value-level logic over the model: abstract states of a Go function (slots that hold data, blocks that the call itself owns), what they say of the machine's own state, and the rules of the walk.
-/
import Derived.WalkKit
set_option linter.unusedVariables false
namespace Lf
open Go

/-- One cell of data. -/
inductive Cell where
  | int (k : IntKind) (n : Int)
  | bool (b : Bool)
  | str (s : List UInt8)
  | slnil
  | sl (rows : List (List Cell))
  | nilp
  | ptr (cs : List Cell)
  | nilf
  | fn (f : Nat) (caps : List Cell)
  | nilm
  | nili
  | iface (t : Nat) (cs : List Cell)
  | sla (b len cap : Nat)
  deriving Inhabited

abbrev Frz := Nat → Option (Array Value)

/-- What a value reads as, over memory that does not turn any more. -/
inductive Rel (Φ : Frz) : Value → Cell → Prop
  | int (k : IntKind) (n : Int) : Rel Φ (.int k n) (.int k n)
  | bool (b : Bool) : Rel Φ (.bool b) (.bool b)
  | str (s : ByteArray) : Rel Φ (.string s) (.str s.data.toList)
  | slnil : Rel Φ (.slice none 0 0) .slnil
  | sl0 : Rel Φ (.slice none 0 0) (.sl [])
  | slE (a : Addr) (cap : Nat) : Rel Φ (.slice (some a) 0 cap) (.sl [])
  | sl (b off len cap sz : Nat) (rows : List (List Cell)) (f : Nat → Nat → Value) (hlen : rows.length = len) (hcap : len ≤ cap) (hsz : ∀ r ∈ rows, r.length = sz)
      (hc : ∀ i j r c, rows[i]? = some r → r[j]? = some c → (Φ b).bind (·[off + (i * sz + j)]?) = some (f i j))
      (hr : ∀ i j r c, rows[i]? = some r → r[j]? = some c → Rel Φ (f i j) c) : Rel Φ (.slice (some ⟨b, off, none⟩) len cap) (.sl rows)
  | nilp : Rel Φ (.pointer none) .nilp
  | ptr (b off : Nat) (cs : List Cell) (f : Nat → Value)
      (hc : ∀ j c, cs[j]? = some c → (Φ b).bind (·[off + j]?) = some (f j))
      (hr : ∀ j c, cs[j]? = some c → Rel Φ (f j) c) : Rel Φ (.pointer (some ⟨b, off, none⟩)) (.ptr cs)
  | nilf : Rel Φ .nilFunc .nilf
  | fn (f : Nat) (caps : List Cell) (vs : Array Value) (g : Nat → Value) (hlen : vs.size = caps.length)
      (hc : ∀ j c, caps[j]? = some c → vs[j]? = some (g j))
      (hr : ∀ j c, caps[j]? = some c → Rel Φ (g j) c) : Rel Φ (.func (.func f) #[] vs) (.fn f caps)
  | nilm : Rel Φ (.map none) .nilm
  | nili : Rel Φ .nilIface .nili
  | iface1 (t : Nat) (v : Value) (c : Cell) (hv : Rel Φ v c) : Rel Φ (.iface t v) (.iface t [c])
  | sla (b len cap : Nat) : Rel Φ (.slice (some ⟨b, 0, none⟩) len cap) (.sla b len cap)

def Frz.le (Φ Φ' : Frz) : Prop := ∀ b c, Φ b = some c → Φ' b = some c
theorem Frz.le_refl (Φ : Frz) : Φ.le Φ := fun _ _ h => h
theorem Frz.le_trans {Φ Φ' Φ'' : Frz} (h : Φ.le Φ') (h' : Φ'.le Φ'') : Φ.le Φ'' := fun b c e => h' b c (h b c e)

theorem Rel.mono {Φ Φ' : Frz} (hle : Φ.le Φ') {v : Value} {c : Cell} (h : Rel Φ v c) : Rel Φ' v c := by
  have bd : ∀ b (k : Nat) (u : Value), (Φ b).bind (·[k]?) = some u → (Φ' b).bind (·[k]?) = some u := by
    intro b k u h
    cases hb : Φ b with
    | none => simp [hb] at h
    | some cs => rw [hb] at h; rw [hle b cs hb]; exact h
  induction h with
  | int k n => exact .int k n
  | bool b => exact .bool b
  | str s => exact .str s
  | slnil => exact .slnil
  | sl0 => exact .sl0
  | slE a cap => exact .slE a cap
  | sl b off len cap sz rows f hlen hcap hsz hc _ ih =>
    exact .sl b off len cap sz rows f hlen hcap hsz (fun i j r c h1 h2 => bd _ _ _ (hc i j r c h1 h2)) ih
  | nilp => exact .nilp
  | ptr b off cs f hc _ ih => exact .ptr b off cs f (fun j c h => bd _ _ _ (hc j c h)) ih
  | nilf => exact .nilf
  | fn f caps vs g hlen hc _ ih => exact .fn f caps vs g hlen hc ih
  | nilm => exact .nilm
  | nili => exact .nili
  | iface1 t v c _ ih => exact .iface1 t v c ih
  | sla b len cap => exact .sla b len cap

theorem Rel.one {Φ : Frz} {v : Value} {c : Cell} (h : Rel Φ v c) : v.cells = #[v] ∧ v.oneCell' = true := by
  cases h <;> exact ⟨rfl, rfl⟩

/-- Cells without an address: they say all of the value. -/
def Cell.flat : Cell → Bool
  | .int .. | .bool _ | .str _ | .slnil | .nilp | .nilf | .nilm | .nili | .sla .. => true
  | _ => false

theorem Rel.flat {Φ Φ' : Frz} {v : Value} {c : Cell} (h : Rel Φ v c) (hf : c.flat = true) : Rel Φ' v c := by
  cases h <;> (first | (cases hf; done) | exact .int _ _ | exact .bool _ | exact .str _ | exact .slnil | exact .nilp | exact .nilf | exact .nilm | exact .nili | exact .sla _ _ _)

/-- Lists of cells. -/
def RelL (Φ : Frz) : List Value → List Cell → Prop
  | [], [] => True
  | v :: vs, c :: cs => Rel Φ v c ∧ RelL Φ vs cs
  | _, _ => False

theorem RelL.length {Φ : Frz} : ∀ {vs : List Value} {cs : List Cell}, RelL Φ vs cs → vs.length = cs.length
  | [], [], _ => rfl
  | _ :: _, _ :: _, h => by simp [RelL.length h.2]
theorem RelL.get {Φ : Frz} : ∀ {vs : List Value} {cs : List Cell}, RelL Φ vs cs → ∀ {j : Nat} {c : Cell}, cs[j]? = some c → ∃ v, vs[j]? = some v ∧ Rel Φ v c
  | [], [], _, j, c, h => by simp at h
  | v :: vs, d :: cs, h, 0, c, hc => ⟨v, rfl, by simp at hc; exact hc ▸ h.1⟩
  | v :: vs, d :: cs, h, j + 1, c, hc => by simpa using RelL.get h.2 (by simpa using hc)
theorem RelL.of_get {Φ : Frz} : ∀ {vs : List Value} {cs : List Cell}, vs.length = cs.length → (∀ (j : Nat) (c : Cell), cs[j]? = some c → ∃ v, vs[j]? = some v ∧ Rel Φ v c) → RelL Φ vs cs
  | [], [], _, _ => trivial
  | [], _ :: _, h, _ => by simp at h
  | _ :: _, [], h, _ => by simp at h
  | v :: vs, c :: cs, h, hg => ⟨by obtain ⟨u, h1, h2⟩ := hg 0 c rfl; simp at h1; exact h1 ▸ h2, RelL.of_get (by simpa using h) (fun j d hd => by simpa using hg (j + 1) d (by simpa using hd))⟩
theorem RelL.mono {Φ Φ' : Frz} (hle : Φ.le Φ') : ∀ {vs : List Value} {cs : List Cell}, RelL Φ vs cs → RelL Φ' vs cs
  | [], [], _ => trivial
  | _ :: _, _ :: _, h => ⟨h.1.mono hle, RelL.mono hle h.2⟩
theorem RelL.append {Φ : Frz} : ∀ {vs us : List Value} {cs ds : List Cell}, RelL Φ vs cs → RelL Φ us ds → RelL Φ (vs ++ us) (cs ++ ds)
  | [], _, [], _, _, h => h
  | _ :: _, _, _ :: _, _, h, h' => ⟨h.1, RelL.append h.2 h'⟩
theorem RelL.oneCell {Φ : Frz} : ∀ {vs : List Value} {cs : List Cell}, RelL Φ vs cs → ∀ u ∈ vs, u.oneCell' = true
  | [], [], _, u, hu => by cases hu
  | _ :: _, _ :: _, h, u, hu => by
    cases hu with
    | head => exact h.1.one.2
    | tail _ hm => exact RelL.oneCell h.2 u hm
theorem RelL.flat {Φ Φ' : Frz} : ∀ {vs : List Value} {cs : List Cell}, RelL Φ vs cs → cs.all Cell.flat = true → RelL Φ' vs cs
  | [], [], _, _ => trivial
  | _ :: _, _ :: _, h, hf => by
    simp only [List.all_cons, Bool.and_eq_true] at hf
    exact ⟨h.1.flat hf.1, RelL.flat h.2 hf.2⟩

/-- A value of one cell, or of a struct or an array. -/
inductive PV where
  | one (c : Cell)
  | agg (cs : List Cell)
  deriving Inhabited

def PV.cells : PV → List Cell
  | .one c => [c]
  | .agg cs => cs
def PV.flat : PV → Bool
  | .one c => c.flat
  | .agg cs => cs.all Cell.flat

def PRel (Φ : Frz) (v : Value) : PV → Prop
  | .one c => Rel Φ v c
  | .agg cs => ∃ arr : Array Value, v = .agg arr ∧ RelL Φ arr.toList cs

theorem PRel.mono {Φ Φ' : Frz} (hle : Φ.le Φ') {v : Value} {p : PV} (h : PRel Φ v p) : PRel Φ' v p := by
  cases p with
  | one c => exact Rel.mono hle h
  | agg cs => obtain ⟨arr, rfl, h⟩ := h; exact ⟨arr, rfl, h.mono hle⟩
theorem PRel.flat {Φ Φ' : Frz} {v : Value} {p : PV} (h : PRel Φ v p) (hf : p.flat = true) : PRel Φ' v p := by
  cases p with
  | one c => exact Rel.flat h hf
  | agg cs => obtain ⟨arr, rfl, h⟩ := h; exact ⟨arr, rfl, h.flat hf⟩
theorem PRel.cells {Φ : Frz} {v : Value} {p : PV} (h : PRel Φ v p) : RelL Φ v.cells.toList p.cells := by
  cases p with
  | one c => have := (Rel.one h).1; simp only [this, PV.cells]; exact ⟨h, trivial⟩
  | agg cs => obtain ⟨arr, rfl, h⟩ := h; exact h

/-- A block that the call owns: rows of cells. -/
structure Blk where
  E : Nat
  sz : Nat
  rows : List (List Cell)

/-- What a slot holds: data; results of a call; a pointer into an own block; an own slice. -/
inductive AV where
  | pv (p : PV)
  | tup (l : List PV)
  | addr (n i off : Nat)
  | slc (n : Nat)
  | mp (n : Nat)
  | itr (d n : Nat)
  | pin (n b c : Nat) (f : Nat → Value)
  | top

def mapTag : Nat := 4294967296
def iterTag : Nat := 4294967297
/-- no block of cells, but a map or an iterator -/
def Blk.ob (B : Blk) : Bool := Nat.ble mapTag B.E

def lk {α : Type _} : List (Nat × α) → Nat → Option α
  | [], _ => none
  | (k, a) :: r, t => bif Nat.beq k t then some a else lk r t

theorem lk_cons {α : Type _} (k : Nat) (a : α) (r : List (Nat × α)) (t : Nat) : lk ((k, a) :: r) t = if k = t then some a else lk r t := by
  simp only [lk]
  by_cases h : k = t
  · subst h; simp
  · rw [if_neg h]
    have : Nat.beq k t = false := by
      cases hb : Nat.beq k t with
      | false => rfl
      | true => exact absurd (Nat.eq_of_beq_eq_true hb) h
    rw [this]; rfl

structure St where
  n : Nat
  env : List (Nat × (Prop × AV))
  blks : List (Nat × Blk)

def St.set (A : St) (t : Nat) (q : Prop) (v : AV) : St := { A with env := (t, (q, v)) :: A.env }

abbrev Own := Nat → Option (Nat × Nat)

def AVRel (Φ : Frz) (β : Own) (bl : List (Nat × Blk)) (v : Value) : AV → Prop
  | .pv p => PRel Φ v p
  | .tup l => ∃ arr : Array Value, v = .tuple arr ∧ arr.size = l.length ∧ ∀ (j : Nat) (p : PV), l[j]? = some p → ∃ u, arr[j]? = some u ∧ PRel Φ u p
  | .addr n i off => ∃ b cap B, β n = some (b, cap) ∧ lk bl n = some B ∧ B.ob = false ∧ v = .pointer (some ⟨b, i * B.sz + off, none⟩)
  | .slc n => ∃ B, lk bl n = some B ∧ B.ob = false ∧ ((β n = none ∧ v = .slice none 0 0) ∨ ∃ b cap, β n = some (b, cap) ∧ v = .slice (some ⟨b, 0, none⟩) B.rows.length cap)
  | .mp n => ∃ b cap B, β n = some (b, cap) ∧ lk bl n = some B ∧ B.E = mapTag ∧ v = .map (some b)
  | .itr d n => ∃ b cap B M c, β d = some (b, cap) ∧ lk bl d = some B ∧ B.E = iterTag ∧ β n = some (B.sz, c) ∧ lk bl n = some M ∧ M.E = mapTag ∧ M.rows.length = cap ∧ v = .pointer (some ⟨b, 0, none⟩)
  | .pin n b c f => ∃ B, β n = some (b, c) ∧ lk bl n = some B ∧ B.ob = false ∧ v = f B.rows.length
  | .top => True

theorem AVRel.mono {Φ Φ' : Frz} (hle : Φ.le Φ') {β : Own} {bl : List (Nat × Blk)} {v : Value} {x : AV} (h : AVRel Φ β bl v x) : AVRel Φ' β bl v x := by
  cases x with
  | pv p => exact PRel.mono hle h
  | tup l => obtain ⟨arr, h1, h2, h3⟩ := h; exact ⟨arr, h1, h2, fun j p hp => let ⟨u, a, b⟩ := h3 j p hp; ⟨u, a, b.mono hle⟩⟩
  | addr n i off => exact h
  | slc n => exact h
  | mp n => exact h
  | itr d n => exact h
  | pin n b c f => exact h
  | top => trivial

theorem ob_map {B : Blk} (h : B.E = mapTag) : B.ob = true := by unfold Blk.ob; rw [h]; rfl
theorem ob_iter {B : Blk} (h : B.E = iterTag) : B.ob = true := by unfold Blk.ob; rw [h]; rfl
/-- A block of cells. -/
def CellRel (Φ : Frz) (w : World) (b cap : Nat) (B : Blk) : Prop :=
  ∃ cur : Array Value, w.heap[b]? = some (.cells cur B.E (0, 0)) ∧ B.rows.length ≤ cap ∧ cap ≤ maxLen ∧ cur.size = cap * B.sz ∧ (∀ r ∈ B.rows, r.length = B.sz) ∧
    ∀ (i j : Nat) (r : List Cell) (x : Cell), B.rows[i]? = some r → r[j]? = some x → ∃ v, cur[i * B.sz + j]? = some v ∧ Rel Φ v x

/-- An entry's value: one cell where the block's size says 0, else a struct. -/
def mapPV (sz : Nat) (vs : List Cell) : PV := bif Nat.beq sz 0 then .one (vs.headD .nilp) else .agg vs
/-- A map (its entries in the order in which they came; none is ever taken out), or an iterator over one (the places of the entries that it has shown). -/
def ObjRel (Φ : Frz) (w : World) (b cap : Nat) (B : Blk) : Prop :=
  (B.E = mapTag ∧ ∃ es : Array MapEntry, w.heap[b]? = some (.map es es.size) ∧ es.size = B.rows.length ∧ ∀ (i : Nat) (e : MapEntry) (r : List Cell), es[i]? = some e → B.rows[i]? = some r → e.born = i ∧ ∃ k vs, r = k :: vs ∧ Rel Φ e.key k ∧ PRel Φ e.val (mapPV B.sz vs)) ∨
  (B.E = iterTag ∧ ∃ seen : Array Nat, w.heap[b]? = some (.mapIter (some B.sz) cap seen cap) ∧ B.rows = seen.toList.map fun (i : Nat) => [Cell.int .i64 (i : Int)])
def BlkRel (Φ : Frz) (w : World) (b cap : Nat) (B : Blk) : Prop := (B.ob = false ∧ CellRel Φ w b cap B) ∨ (B.ob = true ∧ ObjRel Φ w b cap B)
theorem BlkRel.cells {Φ : Frz} {w : World} {b cap : Nat} {B : Blk} (h : BlkRel Φ w b cap B) (ho : B.ob = false) : CellRel Φ w b cap B := by
  rcases h with ⟨_, h⟩ | ⟨h, _⟩
  · exact h
  · rw [ho] at h; cases h
theorem BlkRel.obj {Φ : Frz} {w : World} {b cap : Nat} {B : Blk} (h : BlkRel Φ w b cap B) (ho : B.ob = true) : ObjRel Φ w b cap B := by
  rcases h with ⟨h, _⟩ | ⟨_, h⟩
  · rw [ho] at h; cases h
  · exact h
theorem BlkRel.ex {Φ : Frz} {w : World} {b cap : Nat} {B : Blk} (h : BlkRel Φ w b cap B) : ∃ o, w.heap[b]? = some o := by
  rcases h with ⟨_, cur, h, _⟩ | ⟨_, ⟨_, es, h, _⟩ | ⟨_, seen, h, _⟩⟩ <;> exact ⟨_, h⟩
theorem BlkRel.keep {Φ Φ' : Frz} {w w' : World} {b cap : Nat} {B : Blk} (h : BlkRel Φ w b cap B) (hle : Φ.le Φ') (hh : w'.heap[b]? = w.heap[b]?) : BlkRel Φ' w' b cap B := by
  rcases h with ⟨ho, cur, h1, h2, h3, h4, h5, h6⟩ | ⟨ho, ⟨hE, es, h1, h2, h3⟩ | ⟨hE, seen, h1, h2⟩⟩
  · exact .inl ⟨ho, cur, hh.trans h1, h2, h3, h4, h5, fun i j r x hi hj => let ⟨v, a, c⟩ := h6 i j r x hi hj; ⟨v, a, c.mono hle⟩⟩
  · exact .inr ⟨ho, .inl ⟨hE, es, hh.trans h1, h2, fun i e r a b => let ⟨c1, k, vs, c2, c3, c4⟩ := h3 i e r a b; ⟨c1, k, vs, c2, c3.mono hle, c4.mono hle⟩⟩⟩
  · exact .inr ⟨ho, .inr ⟨hE, seen, hh.trans h1, h2⟩⟩

/-- The world in which the call began, and the blocks that it must leave as they were. -/
structure Ghost where
  w0 : World
  K : Nat → Prop
  F0 : Frz
  lt : ∀ b, K b → b < w0.heap.size

structure Kept (G : Ghost) (w : World) : Prop where
  os : w.os = G.w0.os
  tape : w.tape = G.w0.tape
  output : w.output = G.w0.output
  size : G.w0.heap.size ≤ w.heap.size
  block : ∀ b, G.K b → w.heap[b]? = G.w0.heap[b]?

def Fits (Φ : Frz) (w : World) : Prop := ∀ b c, Φ b = some c → ∃ E fz, w.heap[b]? = some (.cells c E fz)

structure Sat (G : Ghost) (Φ : Frz) (β : Own) (A : St) (a : Act) (w : World) : Prop where
  kept : Kept G w
  fits : Fits Φ w
  old : ∀ b, G.K b → Φ b = G.F0 b
  siz : A.n ≤ a.tmps.size
  dfr : a.defers = []
  env : ∀ t q v, lk A.env t = some (q, v) → (q → AVRel Φ β A.blks (a.tmps.getD t undef) v) ∧ (¬ q → a.tmps.getD t undef = undef)
  blk : ∀ n B b cap, lk A.blks n = some B → β n = some (b, cap) → BlkRel Φ w b cap B ∧ ¬ G.K b ∧ Φ b = none
  vir : ∀ n B, lk A.blks n = some B → β n = none → B.rows = []
  inj : ∀ n n' B B' b cap cap', lk A.blks n = some B → lk A.blks n' = some B' → β n = some (b, cap) → β n' = some (b, cap') → n = n'

/-- THE JUDGEMENT: from every state of the machine that fits A the code comes to an exit and a state that Q takes. -/
def W (P : Program) (G : Ghost) (c : Code) (Q : Exit → St → Prop) (A : St) : Prop :=
  ∀ Φ β a w, Sat G Φ β A a w → c.wp P (fun e a' w' => ∃ A' Φ' β', Q e A' ∧ Sat G Φ' β' A' a' w' ∧ Φ.le Φ') a w

def Le (A B : St) : Prop := ∀ G Φ β a w, Sat G Φ β A a w → ∃ Φ' β', Φ.le Φ' ∧ Sat G Φ' β' B a w

section rules
variable {P : Program} {G : Ghost} {Q : Exit → St → Prop} {A : St}

theorem W.skip (h : Q .normal A) : W P G .skip Q A := fun Φ β a w hs => wp_skip ⟨A, Φ, β, h, hs, Φ.le_refl⟩
theorem W.ret (h : Q .ret A) : W P G .ret Q A := fun Φ β a w hs => wp_ret ⟨A, Φ, β, h, hs, Φ.le_refl⟩
theorem W.exit {id : Nat} (h : Q (.exit id) A) : W P G (.exit id) Q A := fun Φ β a w hs => wp_exit ⟨A, Φ, β, h, hs, Φ.le_refl⟩

def Then (K : St → Prop) (Q : Exit → St → Prop) : Exit → St → Prop
  | .normal, A => K A
  | e, A => Q e A

theorem W.seq {x y : Code} (h : W P G x (Then (W P G y Q) Q) A) : W P G (.seq x y) Q A := fun Φ β a w hs =>
  wp_seq (wp_mono (h Φ β a w hs) fun e a1 w1 ⟨A1, Φ1, β1, q, s, l⟩ => by
    cases e with
    | normal => exact wp_mono (q Φ1 β1 a1 w1 s) fun e2 a2 w2 ⟨A2, Φ2, β2, q2, s2, l2⟩ => ⟨A2, Φ2, β2, q2, s2, Frz.le_trans l l2⟩
    | exit id => exact ⟨A1, Φ1, β1, q, s, l⟩
    | goto id => exact ⟨A1, Φ1, β1, q, s, l⟩
    | ret => exact ⟨A1, Φ1, β1, q, s, l⟩
    | panic c => exact ⟨A1, Φ1, β1, q, s, l⟩
    | outgrown => exact ⟨A1, Φ1, β1, q, s, l⟩)

theorem W.mono {c : Code} {Q' : Exit → St → Prop} (h : W P G c Q A) (hq : ∀ e A, Q e A → Q' e A) : W P G c Q' A := fun Φ β a w hs =>
  wp_mono (h Φ β a w hs) fun _ _ _ ⟨A', Φ', β', q, r⟩ => ⟨A', Φ', β', hq _ _ q, r⟩

theorem W.weaken {c : Code} {B : St} (hl : Le A B) (h : W P G c Q B) : W P G c Q A := fun Φ β a w hs =>
  let ⟨Φ1, β', hle, hs'⟩ := hl G Φ β a w hs
  wp_mono (h Φ1 β' a w hs') fun _ _ _ ⟨A', Φ', β', q, r, l⟩ => ⟨A', Φ', β', q, r, Frz.le_trans hle l⟩

/-- The code behind stands as a variable. -/
theorem W.seq_k {x y : Code} (h : ∀ K : St → Prop, (∀ A, W P G y Q A → K A) → W P G x (Then K Q) A) : W P G (.seq x y) Q A :=
  W.seq (h _ fun _ h => h)

def InBlock (id : Nat) (Q : Exit → St → Prop) : Exit → St → Prop
  | .exit i, A => if i = id then Q .normal A else Q (.exit i) A
  | e, A => Q e A

theorem W.block {id : Nat} {c : Code} (h : W P G c (InBlock id Q) A) : W P G (.block id c) Q A := fun Φ β a w hs =>
  wp_block (wp_mono (h Φ β a w hs) fun e a1 w1 ⟨A1, Φ1, β1, q, s, l⟩ => by
    cases e with
    | exit i =>
      simp only [Exit.inBlock]
      simp only [InBlock] at q
      split <;> rename_i hi
      · rw [if_pos hi] at q; exact ⟨A1, Φ1, β1, q, s, l⟩
      · rw [if_neg hi] at q; exact ⟨A1, Φ1, β1, q, s, l⟩
    | normal => exact ⟨A1, Φ1, β1, q, s, l⟩
    | goto id => exact ⟨A1, Φ1, β1, q, s, l⟩
    | ret => exact ⟨A1, Φ1, β1, q, s, l⟩
    | panic c => exact ⟨A1, Φ1, β1, q, s, l⟩
    | outgrown => exact ⟨A1, Φ1, β1, q, s, l⟩)

/-- A LOOP: a family of states, a measure. -/
theorem W.loop {σ : Type _} {c : Code} (I : σ → St) (μ : σ → Nat) (s0 : σ) (h0 : Le A (I s0))
    (round : ∀ s, W P G c (Then (fun A' => ∃ s', Le A' (I s') ∧ μ s' < μ s) Q) (I s)) : W P G (.loop c) Q A := by
  intro Φ β a w hs b k cs
  obtain ⟨Φ0, β0, hle0, hs0⟩ := h0 G Φ β a w hs
  have key : ∀ (n : Nat) (s : σ), μ s = n → ∀ Φ β a w, Sat G Φ β (I s) a w →
      ∃ e a' w', (∃ A' Φ' β', Q e A' ∧ Sat G Φ' β' A' a' w' ∧ Φ.le Φ') ∧ Arrives P (lone (b.at a (.code c :: .inLoop c :: k)) cs w) b k cs e a' w' := by
    intro n
    induction n using Nat.strongRecOn with
    | _ n ih =>
      intro s hn Φ β a w hs
      obtain ⟨e, a1, w1, ⟨A1, Φ1, β1, q, s1, l1⟩, harr⟩ := round s Φ β a w hs b (.inLoop c :: k) cs
      cases e with
      | normal =>
        obtain ⟨s', hle, hlt⟩ := q
        obtain ⟨Φ2, β2, hle2, hs2⟩ := hle G Φ1 β1 a1 w1 s1
        obtain ⟨e2, a2, w2, ⟨A2, Φ3, β2', q2, s2, l2⟩, harr2⟩ := ih (μ s') (hn ▸ hlt) s' rfl Φ2 β2 a1 w1 hs2
        exact ⟨e2, a2, w2, ⟨A2, Φ3, β2', q2, s2, Frz.le_trans l1 (Frz.le_trans hle2 l2)⟩, .of_steps (Steps.trans harr (.one step_inLoop)) harr2⟩
      | exit id => exact ⟨_, a1, w1, ⟨A1, Φ1, β1, q, s1, l1⟩, .pass (x := .inLoop c) rfl (fun _ _ => .inl (by simp)) harr⟩
      | goto l => exact ⟨_, a1, w1, ⟨A1, Φ1, β1, q, s1, l1⟩, .pass (x := .inLoop c) rfl (fun _ _ => .inl (by simp)) harr⟩
      | ret => exact ⟨_, a1, w1, ⟨A1, Φ1, β1, q, s1, l1⟩, .pass (x := .inLoop c) rfl (fun _ _ => .inl (by simp)) harr⟩
      | panic ch => exact ⟨_, a1, w1, ⟨A1, Φ1, β1, q, s1, l1⟩, .pass (x := .inLoop c) rfl (fun _ _ => .inl (by simp)) harr⟩
      | outgrown => exact ⟨_, a1, w1, ⟨A1, Φ1, β1, q, s1, l1⟩, .pass (x := .inLoop c) rfl (fun _ _ => .inl (by simp)) harr⟩
  obtain ⟨e, a', w', ⟨A', Φ', β', q, r, l⟩, harr⟩ := key _ s0 rfl Φ0 β0 a w hs0
  exact ⟨e, a', w', ⟨A', Φ', β', q, r, Frz.le_trans hle0 l⟩, .of_steps (.one step_loop) harr⟩

/-- A constant of the code. -/
def cst : Value → Option AV
  | .int k n => some (.pv (.one (.int k n)))
  | .bool b => some (.pv (.one (.bool b)))
  | .string s => some (.pv (.one (.str s.data.toList)))
  | .slice none 0 0 => some (.pv (.one .slnil))
  | .pointer none => some (.pv (.one .nilp))
  | .nilFunc => some (.pv (.one .nilf))
  | .map none => some (.pv (.one .nilm))
  | .nilIface => some (.pv (.one .nili))
  | _ => none

def St.opd (A : St) : Operand → Option (Prop × AV)
  | .tmp t => lk A.env t
  | .const v => (cst v).map fun x => (True, x)
  | .func f => some (True, .pv (.one (.fn f [])))
  | .global _ => none

theorem cst_rel {Φ : Frz} {β : Own} {bl : List (Nat × Blk)} {v : Value} {x : AV} (h : cst v = some x) : AVRel Φ β bl v x := by
  unfold cst at h
  split at h <;> simp at h <;> subst h <;> first | exact Rel.int _ _ | exact Rel.bool _ | exact Rel.str _ | exact Rel.slnil | exact Rel.nilp | exact Rel.nilf | exact Rel.nilm | exact Rel.nili

theorem Sat.opd {Φ : Frz} {β : Own} {a : Act} {w : World} (hs : Sat G Φ β A a w) {x : Operand} {q : Prop} {v : AV} (h : A.opd x = some (q, v)) (hq : q) :
    AVRel Φ β A.blks (a.eval x) v := by
  cases x with
  | tmp t => exact (hs.env t q v h).1 hq
  | const u =>
    simp only [St.opd, Option.map_eq_some_iff] at h
    obtain ⟨y, hy, he⟩ := h
    simp only [Prod.mk.injEq] at he
    obtain ⟨_, rfl⟩ := he
    exact cst_rel hy
  | func f =>
    simp only [St.opd, Option.some.injEq, Prod.mk.injEq] at h
    obtain ⟨_, rfl⟩ := h
    exact Rel.fn f [] #[] (fun _ => undef) rfl (fun j c h => by simp at h) (fun j c h => by simp at h)
  | global g => simp [St.opd] at h

/-- The value of an operand where p holds. -/
def Ev (A : St) (p : Prop) (x : Operand) (v : AV) : Prop := ∃ q, A.opd x = some (q, v) ∧ (p → q)
theorem Ev.tt {p : Prop} {x : Operand} {v : AV} (h : A.opd x = some (True, v)) : Ev A p x v := ⟨_, h, fun _ => trivial⟩
theorem Ev.same {p : Prop} {x : Operand} {v : AV} (h : A.opd x = some (p, v)) : Ev A p x v := ⟨_, h, id⟩
theorem Ev.of {p q : Prop} {x : Operand} {v : AV} (h : A.opd x = some (q, v)) (hp : p → q) : Ev A p x v := ⟨_, h, hp⟩
theorem Sat.ev {Φ : Frz} {β : Own} {a : Act} {w : World} (hs : Sat G Φ β A a w) {p : Prop} {x : Operand} {v : AV} (h : Ev A p x v) (hp : p) : AVRel Φ β A.blks (a.eval x) v :=
  let ⟨_, h1, h2⟩ := h
  hs.opd h1 (h2 hp)

theorem AVRel.bool {Φ : Frz} {β : Own} {bl : List (Nat × Blk)} {v : Value} {b : Bool} (h : AVRel Φ β bl v (.pv (.one (.bool b)))) : v = .bool b := by
  cases (show Rel Φ v (.bool b) from h); rfl
theorem AVRel.int {Φ : Frz} {β : Own} {bl : List (Nat × Blk)} {v : Value} {k : IntKind} {n : Int} (h : AVRel Φ β bl v (.pv (.one (.int k n)))) : v = .int k n := by
  cases (show Rel Φ v (.int k n) from h); rfl
theorem AVRel.str {Φ : Frz} {β : Own} {bl : List (Nat × Blk)} {v : Value} {l : List UInt8} (h : AVRel Φ β bl v (.pv (.one (.str l)))) : ∃ s : ByteArray, v = .string s ∧ s.data.toList = l := by
  cases (show Rel Φ v (.str l) from h); exact ⟨_, rfl, rfl⟩

theorem W.cond {c : Operand} {x y : Code} {b : Bool} (hc : Ev A True c (.pv (.one (.bool b)))) (ht : b = true → W P G x Q A) (hf : b = false → W P G y Q A) :
    W P G (.cond c x y) Q A := fun Φ β a w hs =>
  wp_cond_split (t := b) (AVRel.bool (hs.ev hc trivial)) (fun h => ht h Φ β a w hs) (fun h => hf h Φ β a w hs)

end rules
end Lf
