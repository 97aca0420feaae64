/-
  A literal of a slice, and []byte(s), as data: an operation that makes a value, and new memory that nobody writes. Words of 64 bits: masks, shifts and joins of 20 bits.
-/
import Derived.Test.YtipghibmgfhmpaaGreatDoorLfBit
import Derived.Laws.IdiomStrings
set_option linter.unusedVariables false
set_option linter.unusedSimpArgs false
set_option linter.unusedSectionVars false
namespace Lf
section
open Go Go.RowKit
section
variable {P : Program} {G : Ghost} {A : St} {Φ : Frz} {β : Own} {a : Act} {w : World} {T : TT} (hT : TOK P T)
include hT
theorem lit_run (hs : Sat G Φ β A a w) {t e n : Nat} {ps : List (Nat × Operand)} {rs : List (List Cell)} {ti te : TI} (ht : T t = some ti) (hk : ti.kind = .slice e) (he : T e = some te)
    (hx : EvR A ps 0 rs) (hlen : rs.length = n) (hrs : ∀ r ∈ rs, r.length = te.sz) (hb : n * te.sz ≤ 16777216) : ∃ out : Array Value, (Instr.buildSlice t n (ps.toArray.map fun (i, x) => (i, a.eval x))).run P w = .ok (.slice (some ⟨w.heap.size, 0, none⟩) n n) (w.alloc (.cells out e)) ∧ out.size = n * te.sz ∧
      ∀ (i j : Nat) (r : List Cell) (c : Cell), rs[i]? = some r → r[j]? = some c → ∃ v, out[i * te.sz + j]? = some v ∧ Rel Φ v c  := by
  have hu : P.underlying t = some (.slice e) := by have := (hT _ _ ht).kind; rw [hk] at this; exact this
  obtain ⟨i, hi, hisz, hib, z, hzz, hrel⟩ := (hT e te he).info
  have e2 : (ps.toArray.map fun (x : Nat × Operand) => (x.1, a.eval x.2)).toList = ps.map fun (i, x) => (i, a.eval x) := by simp
  have hz : (zeroValue e).run P w = .ok z w := by simp [zeroValue, typeInfo, hi, hzz]
  have hb' : ¬ (2 ^ 24 < n * te.sz) := by omega
  have main : ∀ (Z : Array Value), Z.size = n * te.sz → (∀ out, Instr.fill (fun i => some (i * te.sz, te.sz)) Z (ps.map fun (i, x) => (i, a.eval x)) = some out → (Instr.buildSlice t n (ps.toArray.map fun (i, x) => (i, a.eval x))).run P w = .ok (.slice (some ⟨w.heap.size, 0, none⟩) n n) (w.alloc (.cells out e))) →
      ∃ out : Array Value, (Instr.buildSlice t n (ps.toArray.map fun (i, x) => (i, a.eval x))).run P w = .ok (.slice (some ⟨w.heap.size, 0, none⟩) n n) (w.alloc (.cells out e)) ∧ out.size = n * te.sz ∧
        ∀ (i j : Nat) (r : List Cell) (c : Cell), rs[i]? = some r → r[j]? = some c → ∃ v, out[i * te.sz + j]? = some v ∧ Rel Φ v c := fun Z hZ hrun => by
    obtain ⟨out, k1, k2, _, k4⟩ := fillR_run hs (sz := te.sz) hx hrs (cells := Z) (by rw [hZ, hlen, Nat.zero_add])
    exact ⟨out, hrun out k1, by rw [k2, hZ], fun i j r c hi hj => by have := k4 i j r c hi hj; rwa [Nat.zero_add] at this⟩
  by_cases h0 : n * te.sz = 0
  · refine main ((Array.range (n * te.sz)).map ((#[] : Array Value)[· % (#[] : Array Value).size]!)) (by rw [Array.size_map, Array.size_range]) fun out k1 => ?_
    rw [h0] at k1
    simp only [Instr.buildSlice, Sem.run_bind, run_underlying hu, Result.andThen_ok, run_sizeOf hT he]
    rw [if_neg hb']
    simp only [h0, if_true, Sem.run_pure, Sem.run_bind, Result.andThen_ok]
    rw [e2, k1]
    rfl
  · refine main ((Array.range (n * te.sz)).map (z.cells[· % z.cells.size]!)) (by rw [Array.size_map, Array.size_range]) fun out k1 => ?_
    simp only [Instr.buildSlice, Sem.run_bind, run_underlying hu, Result.andThen_ok, run_sizeOf hT he]
    rw [if_neg hb']
    simp only [h0, if_false, Sem.run_pure, Sem.run_bind, Result.andThen_ok, hz]
    rw [e2, k1]
    rfl
theorem P_litD {o : Oper} {p : Prop} {t e n : Nat} {ps : List (Nat × Operand)} {rs : List (List Cell)} {ti te : TI} (ho : o.op = .buildSlice t n ps.toArray) (ht : T t = some ti) (hk : ti.kind = .slice e) (he : T e = some te)
    (hx : EvR A ps 0 rs) (hlen : rs.length = n) (hrs : ∀ r ∈ rs, r.length = te.sz) (hb : n * te.sz ≤ 16777216) : PureOp P G A o p (.pv (.one (.sl rs))) := fun Φ β a w hs hp => by
  obtain ⟨out, h1, h2, h3⟩ := lit_run hT hs ht hk he hx hlen hrs hb
  have hx1 : (execOp a.eval o).run P w = .ok (.value (.slice (some ⟨w.heap.size, 0, none⟩) n n)) (w.alloc (.cells out e)) := by
    have e3 : execOp a.eval o = (do pure (.value (← Instr.buildSlice t n (ps.toArray.map fun (i, x) => (i, a.eval x))))) := by simp only [execOp, ho]
    rw [e3, Sem.run_bind, h1]; rfl
  unfold Oper.wp
  rw [hx1]
  have hno : ∀ b c, Φ b = some c → b < w.heap.size := fun b c h => by
    obtain ⟨E, fz, hw⟩ := hs.fits b c h
    exact (Array.getElem?_eq_some_iff.1 hw).1
  have hold : ∀ b, b < w.heap.size → (w.alloc (.cells out e)).heap[b]? = w.heap[b]? := fun b hb => heap_alloc_old w _ hb
  refine ⟨_, fun c => if c = w.heap.size then some out else Φ c, rfl, ?_, fun b c h => ?_, fun b hb => ?_, fun b c h => ?_, ?_⟩
  · show Rel _ _ _
    refine .sl w.heap.size 0 n n te.sz rs (fun i j => (out[i * te.sz + j]?).getD undef) hlen (Nat.le_refl _) hrs (fun i j r c hi hj => ?_) (fun i j r c hi hj => ?_)
    · obtain ⟨v, q1, q2⟩ := h3 i j r c hi hj
      simp [q1]
    · obtain ⟨v, q1, q2⟩ := h3 i j r c hi hj
      rw [q1]
      refine q2.mono fun b c h => ?_
      have := hno b c h
      show (if b = w.heap.size then some out else Φ b) = some c
      rw [if_neg (by omega)]; exact h
  · have := hno b c h
    show (if b = w.heap.size then some out else Φ b) = some c
    rw [if_neg (by omega)]; exact h
  · show (if b = w.heap.size then some out else Φ b) = Φ b
    rw [if_neg (by omega)]
  · simp only at h
    split at h
    · rename_i e1; subst e1; cases h
      exact ⟨e, (0, 0), heap_alloc_new w _⟩
    · obtain ⟨E, fz, hw⟩ := hs.fits b c h
      exact ⟨E, fz, by rw [hold b (hno b c h)]; exact hw⟩
  · exact Below.alloc (Below.refl _ _) (Nat.le_refl _) _
end
section
variable {P : Program} {G : Ghost} {n0 : Nat} {env : List (Nat × (Prop × AV))} {bl : List (Nat × Blk)} {p : Prop} {dst : Option Nat} {ty : TypeId} {pos : String} {after : Array Edge} {gd : Option (Nat × Bool)} {T : TT} (hT : TOK P T)
include hT
theorem Q_litD {t e n : Nat} {ps : List (Nat × Operand)} {rs : List (List Cell)} {ti te : TI} (hx : EvR (St.mk n0 env bl) ps 0 rs) (ht : T t = some ti) (hk : ti.kind = .slice e) (he : T e = some te) (hlen : rs.length = n) (hrs : rs.all (fun r => Nat.beq r.length te.sz) = true)
    (hb : Nat.ble (n * te.sz) 16777216 = true) : PureOp P G (St.mk n0 env bl) ⟨dst, .buildSlice t n ps.toArray, ty, pos, after, gd⟩ p (.pv (.one (.sl rs))) :=
  P_litD hT rfl ht hk he hx hlen (fun r hr => Nat.eq_of_beq_eq_true (List.all_eq_true.1 hrs r hr)) (Nat.le_of_ble_eq_true hb)
end
end
section
open Go Go.RowKit
theorem wrap_u64' (n : Int) : IntKind.u64.wrap n = n % 18446744073709551616 := by simp [IntKind.wrap, IntKind.bits, IntKind.signed]
theorem wraps_u64' (n : Int) (h₀ : 0 ≤ n) (h₁ : n < 2 ^ 64) : IntKind.u64.wrap n = n := by rw [wrap_u64']; omega
theorem u64_and20 {n : Int} (h0 : 0 ≤ n) (h1 : n ≤ 18446744073709551615) : bits .and .u64 n 1048575 = n % 1048576 :=
  bits_mask .u64 64 (by decide) wraps_u64' 20 (by decide) n h0 (by omega)
theorem u64_orHi (i : Nat) {y x : Int} (hy0 : 0 ≤ y) (hy : y < 2 ^ i) (hx0 : 0 ≤ x) (hx : x % 2 ^ i = 0) (hx1 : x < 2 ^ 64) (hy1 : y < 2 ^ 64) : bits .or .u64 y x = y + x := by
  have h := bits_join .u64 64 (by decide) wraps_u64' i x y hx0 hx hx1 hy0 hy hy1
  obtain ⟨a, rfl⟩ := Int.eq_ofNat_of_zero_le hx0
  obtain ⟨b, rfl⟩ := Int.eq_ofNat_of_zero_le hy0
  have ha : a < 2 ^ 64 := by exact_mod_cast hx1
  have hb : b < 2 ^ 64 := by exact_mod_cast hy1
  rw [(bits_nat .u64 64 (by decide) wraps_u64' a b ha hb).2] at h
  rw [(bits_nat .u64 64 (by decide) wraps_u64' b a hb ha).2, Nat.or_comm, h]
  omega
theorem pw_two : ∀ i : Nat, pw i = 2 ^ (20 * i)
  | 0 => rfl
  | i + 1 => by rw [pw, pw_two i, show 20 * (i + 1) = 20 * i + 20 by omega, Int.pow_add]; omega
/-- d digits of 20 bits further up -/
theorem u64_or20 {i : Nat} {u d : Int} (hi : i ≤ 3) (hu : 0 ≤ u ∧ u < pw i) (hd : 0 ≤ d ∧ d < 1048576) (h3 : i = 3 → d ≤ 8) : bits .or .u64 u (IntKind.u64.wrap (d * 2 ^ min (20 * (i : Int)).toNat IntKind.u64.bits)) = u + pw i * d := by
  have e1 : min (20 * (i : Int)).toNat IntKind.u64.bits = 20 * i := by
    show min (20 * (i : Int)).toNat 64 = 20 * i
    omega
  have hc : i = 0 ∨ i = 1 ∨ i = 2 ∨ i = 3 := by omega
  have hb : pw i * d < 2 ^ 64 ∧ u < 2 ^ 64 := by
    rcases hc with rfl | rfl | rfl | rfl <;> simp only [pw] at hu ⊢ <;> omega
  have hp := pw_pos i
  have hm : 0 ≤ pw i * d := Int.mul_nonneg (by omega) hd.1
  rw [e1, ← pw_two, Int.mul_comm d, wraps_u64' _ hm hb.1]
  exact u64_orHi (20 * i) hu.1 (by rw [← pw_two]; exact hu.2) hm (by rw [← pw_two]; exact Int.mul_emod_right _ _) hb.1 hb.2
section
variable {P : Program} {G : Ghost} {n0 : Nat} {env : List (Nat × (Prop × AV))} {bl : List (Nat × Blk)} {p : Prop} {dst : Option Nat} {ty : TypeId} {pos : String} {after : Array Edge} {gd : Option (Nat × Bool)}
theorem Q_mask20u {xt yt : Nat} {x : Operand} {m : Int} (hx : Ev (St.mk n0 env bl) p x (.pv (.one (.int .u64 m)))) (hb : 0 ≤ m ∧ m ≤ 18446744073709551615) :
    PureOp P G (St.mk n0 env bl) ⟨dst, .binOp .and xt x (.const (.int .u64 1048575)) yt, ty, pos, after, gd⟩ p (.pv (.one (.int .u64 (m % 1048576)))) := P_bin (n := 1048575) rfl hx ⟨True, rfl, fun _ => trivial⟩ (by simp only [binI]; rw [u64_and20 hb.1 hb.2])
theorem Q_shr20u {xt yt : Nat} {x : Operand} {m : Int} (hx : Ev (St.mk n0 env bl) p x (.pv (.one (.int .u64 m)))) :
    PureOp P G (St.mk n0 env bl) ⟨dst, .binOp .shr xt x (.const (.int .u64 20)) yt, ty, pos, after, gd⟩ p (.pv (.one (.int .u64 (m / 1048576)))) := by
  have h := P_shr (P := P) (G := G) (o := ⟨dst, .binOp .shr xt x (.const (.int .u64 20)) yt, ty, pos, after, gd⟩) (n := 20) (yk := .u64) rfl hx ⟨True, rfl, fun _ => trivial⟩ (fun _ => by omega)
  rw [show m.fdiv (2 ^ min (20 : Int).toNat IntKind.u64.bits) = m / 1048576 from by
    show m.fdiv 1048576 = _
    exact Int.fdiv_eq_ediv_of_nonneg _ (by omega)] at h
  exact h
end
end
section
open Go Go.RowKit
abbrev byteRow (c : UInt8) : List Cell := [.int .u8 c.toNat]
section
variable {P : Program} {G : Ghost} {A : St} {T : TT} (hT : TOK P T)
include hT
theorem P_bytes {o : Oper} {p : Prop} {src t e : Nat} {x : Operand} {s : List UInt8} {ts ti te : TI} (ho : o.op = .convert src t x) (hs0 : T src = some ts) (hks : ts.kind = .string) (ht : T t = some ti) (hk : ti.kind = .slice e) (he : T e = some te) (hke : te.kind = .int .u8)
    (hx : Ev A p x (.pv (.one (.str s)))) : PureOp P G A o p (.pv (.one (.sl (s.map byteRow)))) := fun Φ β a w hs hp => by
  have hv : a.eval x = .string ⟨s.toArray⟩ := by
    have h' : Rel Φ (a.eval x) (.str s) := hs.ev hx hp
    generalize a.eval x = v at h'
    cases h'; simp
  have hu1 : P.underlying src = some .string := by have := (hT _ _ hs0).kind; rw [hks] at this; exact this
  have hu2 : P.underlying t = some (.slice e) := by have := (hT _ _ ht).kind; rw [hk] at this; exact this
  have hu3 : P.underlying e = some (.int .u8) := by have := (hT _ _ he).kind; rw [hke] at this; exact this
  have hrun := run_bytes_of_string (P := P) w src t e ⟨s.toArray⟩ hu1 hu2 hu3
  have hsz : (⟨s.toArray⟩ : ByteArray).size = s.length := by simp [ByteArray.size]
  rw [hsz] at hrun
  have hge := grownCap_ge w s.length 0 e
  generalize grownCap w s.length 0 e = cap at hrun hge
  generalize hout : bytesRow ⟨s.toArray⟩ cap = out at hrun
  have hat : ∀ (i : Nat) (c : UInt8), s[i]? = some c → out[i]? = some (.int .u8 c.toNat) := fun i c h => by
    obtain ⟨hi, rfl⟩ := List.getElem?_eq_some_iff.1 h
    rw [← hout, bytesRow_at _ _ _ (by simpa using hi)]
    simp
  have hx1 : (execOp a.eval o).run P w = .ok (.value (.slice (some ⟨w.heap.size, 0, none⟩) s.length cap)) (w.drew.alloc (.cells out e (out.size, out.size + 1))) := by
    have e3 : execOp a.eval o = (do pure (.value (← convert src t (a.eval x)))) := by simp only [execOp, ho]
    rw [e3, Sem.run_bind, hv, hrun]; rfl
  unfold Oper.wp
  rw [hx1]
  have hno : ∀ b c, Φ b = some c → b < w.heap.size := fun b c h => by
    obtain ⟨E, fz, hw⟩ := hs.fits b c h
    exact (Array.getElem?_eq_some_iff.1 hw).1
  have hold : ∀ b, b < w.heap.size → (w.drew.alloc (.cells out e (out.size, out.size + 1))).heap[b]? = w.heap[b]? := fun b hb => heap_alloc_old w.drew _ hb
  refine ⟨_, fun c => if c = w.heap.size then some out else Φ c, rfl, ?_, fun b c h => ?_, fun b hb => ?_, fun b c h => ?_, ?_⟩
  · show Rel _ _ _
    refine .sl w.heap.size 0 s.length cap 1 (s.map byteRow) (fun i j => (out[i]?).getD undef) (by simp) hge (fun r hr => by obtain ⟨_, _, rfl⟩ := List.mem_map.1 hr; rfl) (fun i j r c hi hj => ?_) (fun i j r c hi hj => ?_)
    · rw [List.getElem?_map] at hi
      cases hsi : s[i]? with
      | none => rw [hsi] at hi; cases hi
      | some ch =>
        rw [hsi] at hi; cases hi
        cases j with
        | zero => simp [hat i ch hsi]
        | succ j => simp at hj
    · rw [List.getElem?_map] at hi
      cases hsi : s[i]? with
      | none => rw [hsi] at hi; cases hi
      | some ch =>
        rw [hsi] at hi; cases hi
        cases j with
        | zero =>
          cases hj
          rw [hat i ch hsi]
          exact .int _ _
        | succ j => simp at hj
  · have := hno b c h
    show (if b = w.heap.size then some out else Φ b) = some c
    rw [if_neg (by omega)]; exact h
  · show (if b = w.heap.size then some out else Φ b) = Φ b
    rw [if_neg (by omega)]
  · simp only at h
    split at h
    · rename_i e1; subst e1; cases h
      exact ⟨e, _, heap_alloc_new w.drew _⟩
    · obtain ⟨E, fz, hw⟩ := hs.fits b c h
      exact ⟨E, fz, by rw [hold b (hno b c h)]; exact hw⟩
  · exact Below.alloc (a := w) (w := w.drew) ⟨rfl, rfl, rfl, Nat.le_refl _, fun _ _ => rfl⟩ (Nat.le_refl _) _
end
section
variable {P : Program} {G : Ghost} {n0 : Nat} {env : List (Nat × (Prop × AV))} {bl : List (Nat × Blk)} {p : Prop} {dst : Option Nat} {ty : TypeId} {pos : String} {after : Array Edge} {gd : Option (Nat × Bool)} {T : TT} (hT : TOK P T)
include hT
theorem Q_bytes {src t e : Nat} {x : Operand} {s : List UInt8} {ts ti te : TI} (hx : Ev (St.mk n0 env bl) p x (.pv (.one (.str s)))) (hs0 : T src = some ts) (hks : ts.kind = .string) (ht : T t = some ti) (hk : ti.kind = .slice e) (he : T e = some te) (hke : te.kind = .int .u8) :
    PureOp P G (St.mk n0 env bl) ⟨dst, .convert src t x, ty, pos, after, gd⟩ p (.pv (.one (.sl (s.map byteRow)))) := P_bytes hT rfl hs0 hks ht hk he hke hx
end
end
end Lf
