/-
  Own slices that lie in own structs; slices of data, cut; a pointer that is looked at first; weakening in the midst of a region.
-/
import Derived.Test.YtipghibmgfhmpaaGreatDoorLfBor
set_option linter.unusedVariables false
set_option linter.unusedSimpArgs false
set_option linter.unusedSectionVars false
namespace Lf
open Go Go.RowKit
def slcV (b c : Nat) : Nat → Value := fun len => .slice (some ⟨b, 0, none⟩) len c
section
variable {P : Program} {G : Ghost} {A B : St} {Φ : Frz} {β : Own} {a : Act} {w w' : World}
theorem W.fin {c : Code} {Q : Exit → St → Prop} (h : W P G c (fun e A => ∃ B, Le A B ∧ Q e B) A) : W P G c Q A := fun Φ β a w hs =>
  wp_mono (h Φ β a w hs) fun e a' w' ⟨A', Φ', β', ⟨B, hl, q⟩, s, l⟩ => by
    obtain ⟨Φ1, β1, l1, s1⟩ := hl G Φ' β' a' w' s
    exact ⟨B, Φ1, β1, q, s1, Frz.le_trans l l1⟩
/-- the place of an own slice -/
theorem Sat.place {t n : Nat} {C : Blk} (hs : Sat G Φ β A a w) (ht : lk A.env t = some (True, .slc n)) (hl : lk A.blks n = some C) :
    (∃ b c, Sat G Φ β (A.set t True (.pin n b c (slcV b c))) a w) ∨ (C.rows = [] ∧ Sat G Φ β (A.set t True (.pv (.one .slnil))) a w) := by
  obtain ⟨C', h1, h2, h3⟩ := (hs.env t True _ ht).1 trivial
  rw [hl] at h1
  obtain rfl := Option.some.inj h1
  have mk : ∀ v, AVRel Φ β A.blks (a.tmps.getD t undef) v → Sat G Φ β (A.set t True v) a w := fun v hv => by
    refine ⟨hs.kept, hs.fits, hs.old, hs.siz, hs.dfr, fun s q v' h => ?_, hs.blk, hs.vir, hs.inj⟩
    simp only [St.set] at h
    rw [lk_cons] at h
    split at h
    · rename_i e; subst e
      simp only [Option.some.injEq, Prod.mk.injEq] at h
      obtain ⟨rfl, rfl⟩ := h
      exact ⟨fun _ => hv, fun hq => (hq trivial).elim⟩
    · exact hs.env s q v' h
  rcases h3 with ⟨h3, h4⟩ | ⟨b, c, h3, h4⟩
  · exact .inr ⟨hs.vir n C hl h3, mk _ (by rw [h4]; exact Rel.slnil)⟩
  · exact .inl ⟨b, c, mk _ ⟨C, h3, hl, h2, h4⟩⟩
theorem PureOp.conv {o : Oper} {p : Prop} {v v' : AV} (h : PureOp P G A o p v) (hc : ∀ Φ β a w, Sat G Φ β A a w → ∀ Φ' u, AVRel Φ' β A.blks u v → AVRel Φ' β A.blks u v') : PureOp P G A o p v' := fun Φ β a w hs hp =>
  Oper.wp_mono' (h Φ β a w hs hp) (fun a' w' ⟨u, Φ', h1, h2, h3⟩ => ⟨u, Φ', h1, hc Φ β a w hs Φ' u h2, h3⟩) (fun _ _ _ h => h)
theorem rel_sla {b len c : Nat} {v : Value} (h : Rel Φ v (.sla b len c)) : v = .slice (some ⟨b, 0, none⟩) len c := by cases h; rfl
/-- a block is kept, an own slice that lies in it stands still from here on, with all else -/
inductive CConv (b c : Nat) (rows : List (List Cell)) : Cell → Cell → Prop
  | refl (x : Cell) : CConv b c rows x x
  | sla : CConv b c rows (.sla b rows.length c) (.sl rows)
  | nil : CConv b c rows .slnil (.sl [])
def LConv (b c : Nat) (rows : List (List Cell)) : List Cell → List Cell → Prop
  | [], [] => True
  | x :: xs, y :: ys => CConv b c rows x y ∧ LConv b c rows xs ys
  | _, _ => False
theorem lconv_get {b c : Nat} {rows : List (List Cell)} : ∀ {xs ys : List Cell}, LConv b c rows xs ys → xs.length = ys.length ∧ ∀ (j : Nat) (y : Cell), ys[j]? = some y → ∃ x, xs[j]? = some x ∧ CConv b c rows x y
  | [], [], _ => ⟨rfl, fun j y h => by simp at h⟩
  | x :: xs, y :: ys, h => ⟨by simp [(lconv_get h.2).1], fun j z hz => by
      cases j with
      | zero => simp at hz; subst hz; exact ⟨x, rfl, h.1⟩
      | succ j => simpa using (lconv_get h.2).2 j z (by simpa using hz)⟩
theorem Le.freezeK {m t n b c : Nat} {B C : Blk} {row row' : List Cell} (hm : lk A.blks m = some B) (hB : B.rows = [row]) (hmo : B.ob = false) (ht : lk A.env t = some (True, .pin n b c (slcV b c))) (hn : lk A.blks n = some C) (hne : n ≠ m) (hr : LConv b c C.rows row row') :
    Le A { A with env := frzX m A.blks A.env, blks := [(m, { B with rows := [row'] })] } := fun G Φ β a w hs => by
  obtain ⟨C', p1, p2, p3, p4⟩ := (hs.env t True _ ht).1 trivial
  rw [hn] at p2
  obtain rfl := Option.some.inj p2
  obtain ⟨Φ', β', hle, hs', hβ, hΦ⟩ := freezeX_sat hm hs
  have hslc : AVRel Φ β A.blks (slcV b c C.rows.length) (.slc n) := ⟨C, hn, p3, .inr ⟨b, c, p1, rfl⟩⟩
  have hfr : Rel Φ' (slcV b c C.rows.length) (.sl C.rows) := hΦ _ n C (.one (.sl C.rows)) hn hne hslc (by simp [toPV, hn])
  refine ⟨Φ', β', hle, hs'.kept, hs'.fits, hs'.old, hs'.siz, hs'.dfr, fun s q v h => ⟨fun hq => ?_, (hs'.env s q v h).2⟩, fun k D b' cap h1 h2 => ?_, fun k D h1 h2 => ?_, fun k k' D D' b' c1 c2 h1 h2 h3 h4 => ?_⟩
  · have h5 := (hs'.env s q v h).1 hq
    exact h5.turn (A := { A with blks := [(m, B)] }) (n := m) (B := B) (rows := [row']) (by show lk [(m, B)] m = _; rw [lk_cons, if_pos rfl]) hmo (by rw [hB]; rfl) |>.congr (fun k => by
      show lk ((m, { B with rows := [row'] }) :: [(m, B)]) k = lk [(m, { B with rows := [row'] })] k
      rw [lk_cons, lk_cons, lk_cons]; split <;> rfl)
  · rw [lk_cons] at h1
    split at h1
    · rename_i e; subst e
      obtain rfl := Option.some.inj h1
      obtain ⟨k1, k2, k3⟩ := hs'.blk m B b' cap (by show lk [(m, B)] m = _; rw [lk_cons, if_pos rfl]) h2
      obtain ⟨cur, g1, g2, g3, g4, g5, g6⟩ := k1.cells hmo
      obtain ⟨l1, l2⟩ := lconv_get hr
      refine ⟨.inl ⟨hmo, cur, g1, by rw [hB] at g2; exact g2, g3, g4, fun r hr' => ?_, fun i j r x hi hj => ?_⟩, k2, k3⟩
      · simp at hr'; subst hr'
        rw [← l1]; exact g5 row (by rw [hB]; simp)
      · have hi0 : i = 0 := by
          cases i with
          | zero => rfl
          | succ i => simp at hi
        subst hi0
        simp at hi; subst hi
        obtain ⟨y, q1, q2⟩ := l2 j x hj
        obtain ⟨v, q3, q4⟩ := g6 0 j row y (by rw [hB]; rfl) q1
        refine ⟨v, q3, ?_⟩
        cases q2 with
        | refl => exact q4
        | sla => rw [rel_sla q4]; exact hfr
        | nil => cases q4; exact .sl0
    · simp [lk] at h1
  · rw [lk_cons] at h1
    split at h1
    · rename_i e; subst e
      have := hs'.vir m B (by show lk [(m, B)] m = _; rw [lk_cons, if_pos rfl]) h2
      rw [hB] at this; cases this
    · simp [lk] at h1
  · rw [lk_cons] at h1 h2
    split at h1
    · rename_i e; split at h2
      · rename_i e'; rw [← e, ← e']
      · simp [lk] at h2
    · simp [lk] at h1
end
section
variable {P : Program} {G : Ghost} {ops : Array Oper} {rest : List Oper} {Q : St → Prop} {n0 : Nat} {env : List (Nat × (Prop × AV))} {bl : List (Nat × Blk)} {p : Prop} {dst : Option Nat} {ty : TypeId} {pos : String} {after : Array Edge} {gd : Option (Nat × Bool)}
theorem RG.place {t n : Nat} {C : Blk} (ht : lk env t = some (True, .slc n)) (hl : lk bl n = some C) (h1 : ∀ b c, RG P G ops rest Q (St.mk n0 ((t, (True, .pin n b c (slcV b c))) :: env) bl)) (h2 : C.rows = [] → RG P G ops rest Q (St.mk n0 ((t, (True, .pv (.one .slnil))) :: env) bl)) :
    RG P G ops rest Q (St.mk n0 env bl) := fun Φ β a w hs Q' hq => by
  rcases hs.place ht hl with ⟨b, c, hs'⟩ | ⟨h, hs'⟩
  · exact h1 b c Φ β a w hs' Q' hq
  · exact h2 h Φ β a w hs' Q' hq
/-- the second part was not reckoned -/
theorem Q_andF {c x : Operand} {b : Bool} (hc : Ev (St.mk n0 env bl) p c (.pv (.one (.bool b)))) (hb : b = false) :
    PureOp P G (St.mk n0 env bl) ⟨dst, .pick c x (.const (.bool false)), ty, pos, after, gd⟩ p (.pv (.one (.bool false))) := PureOp.val fun Φ β a w hs hp => by
  have h1 := AVRel.bool (hs.ev hc hp)
  subst hb
  exact ⟨.bool false, by simp [execOp, h1, asBool]; rfl, Rel.bool _⟩
theorem Q_orT {c x : Operand} {b : Bool} (hc : Ev (St.mk n0 env bl) p c (.pv (.one (.bool b)))) (hb : b = true) :
    PureOp P G (St.mk n0 env bl) ⟨dst, .pick c (.const (.bool true)) x, ty, pos, after, gd⟩ p (.pv (.one (.bool true))) := PureOp.val fun Φ β a w hs hp => by
  have h1 := AVRel.bool (hs.ev hc hp)
  subst hb
  exact ⟨.bool true, by simp [execOp, h1, asBool]; rfl, Rel.bool _⟩
theorem Q_nilCheck {x : Operand} {n i off : Nat} (hx : Ev (St.mk n0 env bl) p x (.addr n i off)) : PureOp P G (St.mk n0 env bl) ⟨dst, .nilCheck x, ty, pos, after, gd⟩ p (.addr n i off) := PureOp.val fun Φ β a w hs hp => by
  obtain ⟨b, cap, B, h1, h2, h3, h4⟩ := hs.ev hx hp
  refine ⟨a.eval x, ?_, b, cap, B, h1, h2, h3, h4⟩
  rw [h4]
  simp [execOp, h4]
variable {T : TT} (hT : TOK P T)
include hT
/-- an own slice out of an own struct -/
theorem Q_loadO {tt t n n2 i off b len c : Nat} {x : Operand} {ti : TI} {B C : Blk} {r : List Cell} {f : Nat → Value} (hpin : lk env tt = some (True, .pin n2 b c f)) (hf : f = slcV b c) (hC : lk bl n2 = some C) (hCo : C.ob = false) (ht : T t = some ti) (hb : ti.kind.isAgg = some false) (hx : Ev (St.mk n0 env bl) p x (.addr n i off))
    (hl : lk bl n = some B) (hr : B.rows[i]? = some r) (hc : r[off]? = some (.sla b len c)) (hlen : C.rows.length = len) : PureOp P G (St.mk n0 env bl) ⟨dst, .load t x, ty, pos, after, gd⟩ p (.slc n2) :=
  PureOp.conv (Q_load hT ht hb hx hl hr hc) fun Φ β a w hs Φ' u h => by
    obtain ⟨D, h1, h2, h3, _⟩ := (hs.env tt True _ hpin).1 trivial
    exact ⟨C, hC, hCo, .inr ⟨b, c, h1, by rw [hlen]; exact rel_sla h⟩⟩
/-- an own slice into an own struct -/
theorem S_storeO {t n n2 i off b c : Nat} {x : Operand} {ty' : Nat} {ti : TI} {B C : Blk} {r : List Cell} {f : Nat → Value} (hx : Ev (St.mk n0 env bl) True x (.addr n i off)) (hpin : lk env ty' = some (True, .pin n2 b c f)) (hf : f = slcV b c) (hC : lk bl n2 = some C) (ht : T t = some ti) (hz : ti.sz = 1)
    (hl : lk bl n = some B) (hr : B.rows[i]? = some r) (hfit : off + 1 ≤ r.length)
    (h : RG P G ops rest Q (St.mk n0 env ((n, { B with rows := B.rows.set i (splice r off [.sla b C.rows.length c]) }) :: bl))) : RG P G ops (⟨none, .store t x (.tmp ty'), ty, pos, after, none⟩ :: rest) Q (St.mk n0 env bl) :=
  RG.eff rfl (E_storeG hT (q := .one (.sla b C.rows.length c)) rfl rfl ht hx (fun Φ β a w hs => by
    obtain ⟨D, h1, h2, h3, h4⟩ := (hs.env ty' True _ hpin).1 trivial
    have h2' : lk bl n2 = some D := h2
    rw [hC] at h2'
    obtain rfl := Option.some.inj h2'
    show Rel Φ (a.tmps.getD ty' undef) _
    rw [h4, hf]
    exact Rel.sla b _ c) hl hr (by rw [hz]; rfl) (by rw [hz]; exact hfit)) h
omit hT in
/-- a slice of data, cut -/
theorem rel_cut {Φ : Frz} {v : Value} {rows : List (List Cell)} {sz lo hi : Nat} (h : Rel Φ v (.sl rows)) (hrows : ∀ r ∈ rows, r.length = sz) (h1 : lo ≤ hi) (h2 : hi ≤ rows.length) :
    ∃ a len cap, v = .slice a len cap ∧ len = rows.length ∧ len ≤ cap ∧ Rel Φ (.slice (if cap = lo then a else a.map (·.add (lo * sz))) (hi - lo) (cap - lo)) (.sl ((rows.drop lo).take (hi - lo))) := by
  cases h with
  | sl0 =>
    simp at h2
    refine ⟨none, 0, 0, rfl, rfl, Nat.le_refl _, ?_⟩
    have e1 : lo = 0 := by omega
    have e2 : hi = 0 := by omega
    subst e1; subst e2
    exact .sl0
  | slE a cap =>
    simp at h2
    refine ⟨some a, 0, cap, rfl, rfl, Nat.zero_le _, ?_⟩
    have e1 : lo = 0 := by omega
    have e2 : hi = 0 := by omega
    subst e1; subst e2
    simp only [List.drop_zero, Nat.sub_zero, List.take_zero]
    split
    · exact .slE a cap
    · exact .slE _ cap
  | sl b off len cap sz' _ f hlen hcap hsz hc hr =>
    refine ⟨some ⟨b, off, none⟩, len, cap, rfl, hlen.symm, hcap, ?_⟩
    by_cases e : lo = hi
    · subst e
      simp only [Nat.sub_self, List.take_zero]
      split
      · rename_i e2; exact .slE _ _
      · exact .slE _ _
    · have hne : cap ≠ lo := by rw [← hlen] at hcap; omega
      have hlt : hi - lo ≤ cap - lo := by rw [← hlen] at hcap; omega
      rw [if_neg hne]
      have hz : sz' = sz := by
        cases rows with
        | nil => simp at h2; omega
        | cons r rs => rw [← hsz r (by simp), hrows r (by simp)]
      subst hz
      have hget : ∀ (i : Nat) (r : List Cell), ((rows.drop lo).take (hi - lo))[i]? = some r → rows[lo + i]? = some r := fun i r h => by
        simp only [List.getElem?_take, List.getElem?_drop] at h
        split at h
        · exact h
        · cases h
      simp only [Option.map_some, Addr.add_lit]
      refine .sl b (off + lo * sz') (hi - lo) (cap - lo) sz' ((rows.drop lo).take (hi - lo)) (fun i j => f (lo + i) j) (by rw [List.length_take, List.length_drop]; omega) hlt (fun r hr' => hsz r (List.mem_of_mem_drop (List.mem_of_mem_take hr'))) (fun i j r c h3 h4 => ?_) (fun i j r c h3 h4 => ?_)
      · have := hc (lo + i) j r c (hget i r h3) h4
        have e : off + lo * sz' + (i * sz' + j) = off + ((lo + i) * sz' + j) := by rw [Nat.add_mul]; omega
        rw [e]; exact this
      · exact hr (lo + i) j r c (hget i r h3) h4
theorem Q_cut2 {t e : Nat} {x lo hi : Operand} {ti te : TI} {rows : List (List Cell)} {k k' : IntKind} {a b : Int} (hx : Ev (St.mk n0 env bl) p x (.pv (.one (.sl rows)))) (ha : Ev (St.mk n0 env bl) p lo (.pv (.one (.int k a)))) (hb : Ev (St.mk n0 env bl) p hi (.pv (.one (.int k' b))))
    (ht : T t = some ti) (hk : ti.kind = .slice e) (he : T e = some te) (hrows : ∀ r ∈ rows, r.length = te.sz) (hr : p → 0 ≤ a ∧ a ≤ b ∧ b ≤ rows.length) : PureOp P G (St.mk n0 env bl) ⟨dst, .slice t x (some lo) (some hi) none, ty, pos, after, gd⟩ p (.pv (.one (.sl ((rows.drop a.toNat).take (b.toNat - a.toNat))))) := PureOp.val fun Φ β ac w hs hp => by
  have hu : P.underlying t = some (.slice e) := by have := (hT _ _ ht).kind; rw [hk] at this; exact this
  have h2 := AVRel.int (hs.ev ha hp)
  have h3 := AVRel.int (hs.ev hb hp)
  obtain ⟨r1, r2, r3⟩ := hr hp
  obtain ⟨av, len, cap, h1, hlen, hcap, hrel⟩ := rel_cut (lo := a.toNat) (hi := b.toNat) (show Rel Φ (ac.eval x) _ from hs.ev hx hp) hrows (by omega) (by omega)
  refine ⟨_, exec_val (m := Instr.sliceAt t (ac.eval x) (some (ac.eval lo)) (some (ac.eval hi)) none) (by simp only [execOp]; rfl) ?_, hrel⟩
  rw [h1, h2, h3]
  have e1 : (Instr.sliceBound (.int k' b) cap .sliceAcap).run P w = .ok b.toNat w := run_bound ⟨by omega, by omega⟩
  have e2 : (Instr.sliceBound (.int k a) b.toNat .sliceB).run P w = .ok a.toNat w := run_bound ⟨r1, by omega⟩
  simp [Instr.sliceAt, run_underlying hu, Instr.slice, Instr.sliceBounds, e1, e2, run_sizeOf hT he]
theorem Q_cut1 {t e : Nat} {x lo : Operand} {ti te : TI} {rows : List (List Cell)} {k : IntKind} {a : Int} (hx : Ev (St.mk n0 env bl) p x (.pv (.one (.sl rows)))) (ha : Ev (St.mk n0 env bl) p lo (.pv (.one (.int k a))))
    (ht : T t = some ti) (hk : ti.kind = .slice e) (he : T e = some te) (hrows : ∀ r ∈ rows, r.length = te.sz) (hr : p → 0 ≤ a ∧ a ≤ rows.length) : PureOp P G (St.mk n0 env bl) ⟨dst, .slice t x (some lo) none none, ty, pos, after, gd⟩ p (.pv (.one (.sl (rows.drop a.toNat)))) := PureOp.val fun Φ β ac w hs hp => by
  have hu : P.underlying t = some (.slice e) := by have := (hT _ _ ht).kind; rw [hk] at this; exact this
  have h2 := AVRel.int (hs.ev ha hp)
  obtain ⟨r1, r2⟩ := hr hp
  obtain ⟨av, len, cap, h1, hlen, hcap, hrel⟩ := rel_cut (lo := a.toNat) (hi := rows.length) (show Rel Φ (ac.eval x) _ from hs.ev hx hp) hrows (by omega) (Nat.le_refl _)
  have e0 : (rows.drop a.toNat).take (rows.length - a.toNat) = rows.drop a.toNat := List.take_of_length_le (by simp)
  rw [e0] at hrel
  refine ⟨_, exec_val (m := Instr.sliceAt t (ac.eval x) (some (ac.eval lo)) none none) (by simp only [execOp]; rfl) ?_, hrel⟩
  rw [h1, h2, hlen]
  have e2 : (Instr.sliceBound (.int k a) rows.length .sliceB).run P w = .ok a.toNat w := run_bound ⟨r1, by omega⟩
  simp [Instr.sliceAt, run_underlying hu, Instr.slice, Instr.sliceBounds, e2, run_sizeOf hT he]
theorem Q_cut0 {t e : Nat} {x hi : Operand} {ti te : TI} {rows : List (List Cell)} {k : IntKind} {b : Int} (hx : Ev (St.mk n0 env bl) p x (.pv (.one (.sl rows)))) (hb : Ev (St.mk n0 env bl) p hi (.pv (.one (.int k b))))
    (ht : T t = some ti) (hk : ti.kind = .slice e) (he : T e = some te) (hrows : ∀ r ∈ rows, r.length = te.sz) (hr : p → 0 ≤ b ∧ b ≤ rows.length) : PureOp P G (St.mk n0 env bl) ⟨dst, .slice t x none (some hi) none, ty, pos, after, gd⟩ p (.pv (.one (.sl (rows.take b.toNat)))) := PureOp.val fun Φ β ac w hs hp => by
  have hu : P.underlying t = some (.slice e) := by have := (hT _ _ ht).kind; rw [hk] at this; exact this
  have h2 := AVRel.int (hs.ev hb hp)
  obtain ⟨r1, r2⟩ := hr hp
  obtain ⟨av, len, cap, h1, hlen, hcap, hrel⟩ := rel_cut (lo := 0) (hi := b.toNat) (show Rel Φ (ac.eval x) _ from hs.ev hx hp) hrows (by omega) (by omega)
  simp only [List.drop_zero, Nat.sub_zero] at hrel
  refine ⟨_, exec_val (m := Instr.sliceAt t (ac.eval x) none (some (ac.eval hi)) none) (by simp only [execOp]; rfl) ?_, hrel⟩
  rw [h1, h2]
  have e2 : (Instr.sliceBound (.int k b) cap .sliceAcap).run P w = .ok b.toNat w := run_bound ⟨r1, by omega⟩
  simp [Instr.sliceAt, run_underlying hu, Instr.slice, Instr.sliceBounds, e2, run_sizeOf hT he]
end
end Lf
