/-
  Functions of Go's library on strings, by the contracts that the kit's library has of them; the texts of big integers.
-/
import Derived.Test.YtipghibmgfhmpaaGreatDoorWalk9
import Derived.Test.YtipghibmgfhmpaaGreatDoorShelf
import Derived.Test.YtipghibmgfhmpaaGreatDoorLfLend
import Derived.Test.YtipghibmgfhmpaaGreatDoorLfRead
import Derived.Test.YtipghibmgfhmpaaGreatDoorLfBig
set_option linter.unusedVariables false
set_option linter.unusedSimpArgs false
set_option maxHeartbeats 8000000
namespace Go.Proofs.YtipghibmgfhmpaaGreatDoor
open Lf Go
attribute [local irreducible] PureOp EffOp Ev RG W Then InBlock Lf.Fin nth App InitE Pick SubE SubF SubG EvL EvD EvP EvR ResL Lf.Lex SubR SubBR RA RAll EvC FinO FinM ResM FinB ResD FinS val pw digs trimL

section
open Go.RowKit
abbrev Str := List UInt8
abbrev cS (s : Str) : PV := .one (.str s)
def encS (s : Str) : List Cell := [.str s]
abbrev slS (l : List Str) : PV := .one (.sl (l.map encS))
theorem trimS_ok (s cs : Str) (hs : s.length ≤ 9223372036854775807) (hcs : cs.length < 4294967281) (ha : cs.all (fun b => decide (b.toNat < 128)) = true) : ACalls Tryz.prog 79 [cS s, cS cs] (.pv (cS (Lib.trimS s cs))) where
  fn := ⟨_, Tryz.func79, by kernel_rfl, rfl⟩
  calls := fun Φ w vs hfit harg => by
    obtain ⟨v, u, rfl, r0, r1⟩ := args2 harg
    obtain rfl := str_of r0
    obtain rfl := str_of r1
    refine (Tryz.strings_Trim_laid ⟨s.toArray⟩ ⟨cs.toArray⟩ w (by rw [ba_size]; exact hs) (by rw [ba_size]; exact hcs) (by simpa using ascii_of_all ha)).mono fun e w' ⟨he, hb⟩ => ?_
    exact fin_flat hfit (v0 := .string ⟨(Lib.trimS s cs).toArray⟩) (rel_mk _) (by simpa using he) hb
theorem repeat_ok (s : Str) (c : Nat) (hc : s.length * c ≤ 140737488355328) (hc2 : c ≤ 9223372036854775807) : ACalls Tryz.prog 89 [cS s, cI c] (.pv (cS (Lib.repeatL s c))) where
  fn := ⟨_, Tryz.func89, by kernel_rfl, rfl⟩
  calls := fun Φ w vs hfit harg => by
    obtain ⟨v, u, rfl, r0, r1⟩ := args2 harg
    obtain rfl := str_of r0
    obtain rfl := int_of r1
    refine (Tryz.strings_Repeat ⟨s.toArray⟩ c w hc2 (by rw [ba_size]; exact hc)).mono fun e w' ⟨he, hb⟩ => ?_
    exact fin_flat hfit (v0 := .string ⟨(Lib.repeatL s c).toArray⟩) (rel_mk _) (by simpa using he) hb
abbrev powC : List Cell := Lib.pow10Tab.map (Cell.int .u64)
theorem pow_named : Tryz.prog.globalNamed "internal/strconv.uint64pow10" = some 3 := by kernel_rfl
theorem itoa_ok (n : Int) (hn : i64B n) : GCalls Tryz.prog 3 powC 88 [cI n] (.pv (cS (Lib.itoa n))) where
  fn := ⟨_, Tryz.func88, by kernel_rfl, rfl⟩
  calls := fun Φ w vs hfit hg harg => by
    obtain ⟨v, rfl, r0⟩ := args1 harg
    obtain rfl := int_of r0
    refine (Tryz.strconv_Itoa n hn.1 hn.2 w (tabIs_of pow_named hfit hg)).mono fun e w' ⟨he, k, os, hw⟩ => ?_
    refine fin_flat hfit (v0 := .string ⟨(Lib.itoa n).toArray⟩) (rel_mk _) he ?_
    subst hw
    exact ⟨rfl, rfl, rfl, by simp [Go.Sort.grow, World.drewN], fun b hb => by simp [Go.Sort.grow, World.drewN, Array.getElem?_append_left hb]⟩
theorem rel_strS {Φ : Frz} {v : Value} {s : Str} (h : Rel Φ v (.str s)) : v = .string ⟨s.toArray⟩ := by
  cases h; simp
theorem join_ok (l : List Str) (sep : Str) (hn : l.length ≤ 140737488355328) (hj : (Lib.join l sep).length ≤ 140737488355328) : ACalls Tryz.prog 91 [slS l, cS sep] (.pv (cS (Lib.join l sep))) where
  fn := ⟨_, Tryz.func91, by kernel_rfl, rfl⟩
  calls := fun Φ w vs hfit harg => by
    obtain ⟨hsz, hv⟩ := harg
    obtain ⟨v0, h0, r0⟩ := hv 0 _ rfl
    obtain ⟨v1, h1, r1⟩ := hv 1 _ rfl
    have hvs : vs = #[v0, v1] := by
      apply Array.ext
      · exact hsz
      · intro i h2 h3
        have h4 : i = 0 ∨ i = 1 := by simp at h3; omega
        rcases h4 with rfl | rfl
        · have := h0; rw [Array.getElem?_eq_getElem h2] at this; simpa using this
        · have := h1; rw [Array.getElem?_eq_getElem h2] at this; simpa using this
    subst hvs
    have e1 : v1 = .string ⟨sep.toArray⟩ := rel_strS r1
    subst e1
    have fin : ∀ e w', (e = Ending.returned (.string ⟨(Lib.join l sep).toArray⟩) ∧ Below w.heap.size w w') → ∃ v Φ', e = .returned v ∧ AVRel Φ' (fun _ => none) [] v (.pv (cS (Lib.join l sep))) ∧ Φ.le Φ' ∧ (∀ b, b < w.heap.size → Φ' b = Φ b) ∧ Fits Φ' w' ∧ Below w.heap.size w w' := by
      rintro e w' ⟨rfl, hb⟩
      refine ⟨_, Φ, rfl, ?_, Φ.le_refl, fun _ _ => rfl, fun b c h => ?_, hb⟩
      · exact rel_mk _
      · obtain ⟨E, fz, hw⟩ := hfit b c h
        exact ⟨E, fz, by rw [hb.block b (Array.getElem?_eq_some_iff.1 hw).1]; exact hw⟩
    have none : ∀ (a : Option Addr) (c : Nat), l = [] → Calls Tryz.prog 91 #[.slice a 0 c, .string ⟨sep.toArray⟩] w fun e w' => ∃ v Φ', e = .returned v ∧ AVRel Φ' (fun _ => none) [] v (.pv (cS (Lib.join l sep))) ∧ Φ.le Φ' ∧ (∀ b, b < w.heap.size → Φ' b = Φ b) ∧ Fits Φ' w' ∧ Below w.heap.size w w' := fun a c hl => by
      subst hl
      refine (Tryz.strings_Join_none a c ⟨sep.toArray⟩ w).mono fun e w' ⟨he, hw⟩ => fin e w' ⟨he, hw ▸ Below.refl _ _⟩
    have r0' : Rel Φ v0 (.sl (l.map encS)) := r0
    generalize hr : (l.map encS) = rows at r0'
    cases r0' with
    | sl0 => exact none _ _ (List.map_eq_nil_iff.1 hr)
    | slE a cap => exact none _ _ (List.map_eq_nil_iff.1 hr)
    | sl b off len cap sz rows f hlen hcap hsz2 hc hrel =>
      by_cases hl : l = []
      · subst hl; subst hr; simp at hlen; subst hlen; exact none _ _ rfl
      have hlr : l.length = len := by rw [← hlen, ← hr]; simp
      have hrow : ∀ (j : Nat) (s : Str), l[j]? = some s → rows[j]? = some [Cell.str s] := fun j s h => by rw [← hr]; simp [h, encS]
      have hs1 : sz = 1 := by
        cases l with
        | nil => exact absurd rfl hl
        | cons s l => exact (hsz2 [Cell.str s] (by rw [← hr]; simp [encS])).symm
      subst hs1
      have hcell : ∀ (j : Nat) (s : Str), l[j]? = some s → (Φ b).bind (·[off + j]?) = some (.string ⟨s.toArray⟩) := fun j s h => by
        have q1 := hc j 0 _ _ (hrow j s h) rfl
        have q2 := rel_strS (hrel j 0 _ _ (hrow j s h) rfl)
        rw [q2] at q1
        simpa using q1
      have hbk : b < w.heap.size := by
        cases l with
        | nil => exact absurd rfl hl
        | cons s l =>
          have := hcell 0 s rfl
          cases hb : Φ b with
          | none => rw [hb] at this; simp at this
          | some cs => obtain ⟨E, fz, hw⟩ := hfit b cs hb; exact (Array.getElem?_eq_some_iff.1 hw).1
      have key := Tryz.strings_Join b off cap (l.map fun s => (⟨s.toArray⟩ : ByteArray)) ⟨sep.toArray⟩ w (fun j x hx => by
        simp only [List.getElem?_map, Option.map_eq_some_iff] at hx
        obtain ⟨s, q1, rfl⟩ := hx
        exact fits_cell hfit (hcell j s q1)) hbk (by simpa using hn) (by simp; omega) (by simpa [Function.comp_def] using hj)
      have e2 : (l.map fun s => (⟨s.toArray⟩ : ByteArray)).length = len := by simpa using hlr
      rw [e2] at key
      have e3 : (l.map fun s => (⟨s.toArray⟩ : ByteArray)).map (fun x => x.data.toList) = l := by simp [Function.comp_def]
      refine key.mono fun e w' ⟨he, hb⟩ => fin e w' ⟨?_, hb⟩
      rw [he, e3]


theorem reverse_lent (zs : List Str) (hl : zs.length ≤ 9223372036854775807) : SCalls Tryz.prog 90 9 1 (zs.map encS) 0 (zs.map encS).length [] (fun _ _ => .tup []) (zs.reverse.map encS) where
  fn := ⟨_, Tryz.func90, by kernel_rfl, rfl⟩
  calls := fun Φ w vs b cap hfit hv0 hsz harg hΦ hblk => by
    obtain ⟨cur, g1, g2, g3, g4, g5, g6⟩ := hblk.cells rfl
    simp only at g1 g2 g4 g6
    have hvs : vs = #[.slice (some ⟨b, 0, none⟩) zs.length cap] := by
      apply Array.ext
      · exact hsz
      · intro i h2 h3
        have h4 : i = 0 := by simp at h3; omega
        subst h4
        rw [Array.getElem?_eq_getElem h2] at hv0
        simpa using hv0
    have hcell : ∀ (j : Nat) (s : Str), zs[j]? = some s → cur[j]? = some (encStr s) := fun j s h => by
      obtain ⟨v, q1, q2⟩ := g6 j 0 (encS s) (.str s) (by simp [h]) rfl
      rw [rel_strS q2] at q1
      simpa using q1
    have hlt := hblk.lt
    have hH : Go.Sort.Holds encStr w b 0 zs.toArray := fun j hj => by
      have hj' : j < zs.length := by simpa using hj
      refine ⟨?_, ?_⟩
      · rw [Nat.zero_add, cell_of_row w b j cur _ (0, 0) g1, hcell j zs[j] (List.getElem?_eq_getElem hj')]
        simp [hj']
      · simp [World.frozen?, g1]
    rw [hvs]
    refine (Tryz.slices_Reverse_string b 0 cap zs w hH hl).mono fun e w' ⟨he, n, hw⟩ => ?_
    have hh : ∀ c, w'.heap[c]? = if b = c then some (.cells (Go.Sort.putCells encStr 0 zs.reverse.toArray cur) 9 (0, 0)) else w.heap[c]? := fun c => by
      rw [hw]
      simp only [Go.Sort.putRow, Go.Sort.mapBlock, Go.Sort.ahead, Array.getElem?_modify]
      split
      · rename_i e1; subst e1
        rw [g1]; rfl
      · rfl
    refine ⟨.tuple #[], Φ, he, ⟨#[], rfl, rfl, fun j p h => by simp at h⟩, Φ.le_refl, fun _ _ => rfl, fun c x hc => ?_, ?_, ?_⟩
    · obtain ⟨E, fz, hx⟩ := hfit c x hc
      exact ⟨E, fz, by rw [hh, if_neg (fun e1 => by subst e1; rw [hΦ] at hc; cases hc)]; exact hx⟩
    · refine .inl ⟨rfl, Go.Sort.putCells encStr 0 zs.reverse.toArray cur, by rw [hh, if_pos rfl], by simpa using g2, g3, by simpa [Go.Sort.putCells] using g4, fun r hr => ?_, fun i j r x hi hj => ?_⟩
      · obtain ⟨s, _, rfl⟩ := List.mem_map.1 hr; rfl
      · have hi' : i < zs.length := by
          have := (List.getElem?_eq_some_iff.1 hi).1; simpa using this
        rw [List.getElem?_map, List.getElem?_eq_getElem (by simpa using hi')] at hi
        obtain rfl := Option.some.inj hi
        have hj0 : j = 0 := by
          cases j with
          | zero => rfl
          | succ j => simp [encS] at hj
        subst hj0
        obtain rfl := Option.some.inj hj
        have hic : i < cur.size := by simp at g2; omega
        have hir : i < zs.reverse.length := by simpa using hi'
        refine ⟨encStr zs.reverse[i], ?_, ?_⟩
        · simp [Go.Sort.putCells, hic, hi']
        · have := Rel.str (Φ := Φ) ⟨(zs.reverse[i]).toArray⟩
          simpa [encStr] using this
    · refine ⟨?_, ?_, ?_, ?_, fun c hc hne => by rw [hh, if_neg (Ne.symm hne)]⟩
      · rw [hw]; rfl
      · rw [hw]; rfl
      · rw [hw]; rfl
      · rw [hw]; simp [Go.Sort.putRow, Go.Sort.mapBlock, Go.Sort.ahead]

/-! ### prefixes -/
theorem hasPrefix_ok (s x : Str) (hs : s.length ≤ 9223372036854775807) : ACalls Tryz.prog 116 [cS s, cS x] (.pv (cB (decide ((s.length : Int) ≥ x.length) && decide (s.take x.length = x)))) := by
  refine ACalls.of_W (qs := [cB (decide ((s.length : Int) ≥ x.length) && decide (s.take x.length = x))]) [4] 18 Tryz.func116 (by kernel_rfl) rfl rfl rfl fun G => ?_
  refine W.initA (hw := ?_)
  repeat' (first
    | ((first | apply U_ | (apply Ug_; exact rfl; exact rfl) | (apply Ugq_; exact rfl; exact rfl)); (first
    | exact QX.Move TYok
    | exact QX.Asg TYok
    | exact QX.Bin TYok
    | exact QX.Pick TYok
    | exact QX.Len TYok
    | exact QX.Cut TYok); exact rfl)
    | apply RG.nil
    | apply Lex.nil
    | apply Then.n
    | apply Then.r
    | apply Then.x
    | apply InBlock.n
    | apply InBlock.r
    | apply InBlock.hit
    | (apply InBlock.miss; exact rfl)
    | apply W.seq
    | apply W.region
    | apply W.block
    | apply W.skip
    | apply W.ret
    | apply W.exit
    | (apply S_isnil TYok; exact rfl; exact rfl; exact rfl; exact Ev.auto; intro bn hnil)
    | (apply RG.gT; exact rfl; exact rfl; (first | assumption | decide))
    | (apply RG.gF; exact rfl; exact rfl; (first | assumption | decide | (rw [ne_eq, Bool.not_eq_true]; assumption) | (rw [ne_eq, Bool.not_eq_false]; assumption)); exact rfl)
    | (refine W.condA (ht := fun hb => ?_) (hf := fun hb => ?_) <;> (try simp at hb) <;> (try (exfalso; omega))))
  exact Fin.ret ResL.auto
theorem isPre (s x : Str) : (decide ((s.length : Int) ≥ x.length) && decide (s.take x.length = x)) = decide (x <+: s) := by
  rw [Bool.eq_iff_iff, Bool.and_eq_true, decide_eq_true_iff, decide_eq_true_iff, decide_eq_true_iff]
  constructor
  · rintro ⟨_, h⟩; exact List.prefix_iff_eq_take.2 h.symm
  · intro h; exact ⟨by have := h.length_le; omega, (List.prefix_iff_eq_take.1 h).symm⟩
theorem cutPrefix0_ok (s x : Str) (hs : s.length ≤ 9223372036854775807) : ACalls Tryz.prog 95 [cS s, cS x] (.tup [cS (if x <+: s then s.drop x.length else s), cB (decide (x <+: s))]) := by
  have h1 := hasPrefix_ok s x hs
  rw [isPre] at h1
  have hl : x <+: s → x.length ≤ s.length := fun h => h.length_le
  by_cases hp : x <+: s
  · rw [decide_eq_true hp] at h1 ⊢
    rw [if_pos hp]
    have hl := hl hp
    refine ACalls.of_W (qs := [cS (s.drop x.length), cB true]) [4, 5] 15 Tryz.func95 (by kernel_rfl) rfl rfl rfl fun G => ?_
    refine W.initA (hw := ?_)
    repeat' (first
      | ((first | apply U_); (first
    | exact QX.Move TYok
    | exact QX.Asg TYok
    | exact QX.Un TYok
    | exact QX.Len TYok
    | exact QX.Cut TYok
    | (apply Q_call (h1); exact EvL.auto; exact rfl)); exact rfl)
      | apply RG.nil
      | apply Lex.nil
      | apply Then.n
      | apply Then.r
      | apply Then.x
      | apply InBlock.n
      | apply InBlock.r
      | apply InBlock.hit
      | (apply InBlock.miss; exact rfl)
      | apply W.seq
      | apply W.region
      | apply W.block
      | apply W.skip
      | apply W.ret
      | apply W.exit
      | (refine W.condA (ht := fun hb => ?_) (hf := fun hb => ?_) <;> (try simp at hb) <;> (try (exfalso; omega))))
    exact Fin.ret ResL.auto
  · rw [decide_eq_false hp] at h1 ⊢
    rw [if_neg hp]
    refine ACalls.of_W (qs := [cS s, cB false]) [4, 5] 15 Tryz.func95 (by kernel_rfl) rfl rfl rfl fun G => ?_
    refine W.initA (hw := ?_)
    repeat' (first
      | ((first | apply U_); (first
    | exact QX.Move TYok
    | exact QX.Asg TYok
    | exact QX.Un TYok
    | exact QX.Len TYok
    | exact QX.Cut TYok
    | (apply Q_call (h1); exact EvL.auto; exact rfl)); exact rfl)
      | apply RG.nil
      | apply Lex.nil
      | apply Then.n
      | apply Then.r
      | apply Then.x
      | apply InBlock.n
      | apply InBlock.r
      | apply InBlock.hit
      | (apply InBlock.miss; exact rfl)
      | apply W.seq
      | apply W.region
      | apply W.block
      | apply W.skip
      | apply W.ret
      | apply W.exit
      | (refine W.condA (ht := fun hb => ?_) (hf := fun hb => ?_) <;> (try simp at hb) <;> (try (exfalso; omega))))
    exact Fin.ret ResL.auto
theorem cutPrefix_ok (s x : Str) (hs : s.length ≤ 9223372036854775807) : ACalls Tryz.prog 78 [cS s, cS x] (.tup [cS (if x <+: s then s.drop x.length else s), cB (decide (x <+: s))]) := by
  have h1 := cutPrefix0_ok s x hs
  generalize (if x <+: s then s.drop x.length else s) = r at *
  generalize decide (x <+: s) = b at *
  refine ACalls.of_W (qs := [cS r, cB b]) [4, 5] 11 Tryz.func78 (by kernel_rfl) rfl rfl rfl fun G => ?_
  refine W.initA (hw := ?_)
  repeat' (first
    | ((first | apply U_); (first
    | exact QX.Move TYok
    | exact QX.Asg TYok
    | exact QX.Ext TYok
    | (apply Q_calld (h1); exact EvD.auto)); exact rfl)
    | apply RG.nil
    | apply Lex.nil
    | apply Then.n
    | apply Then.r
    | apply Then.x
    | apply InBlock.n
    | apply InBlock.r
    | apply InBlock.hit
    | (apply InBlock.miss; exact rfl)
    | apply W.seq
    | apply W.region
    | apply W.block
    | apply W.skip
    | apply W.ret
    | apply W.exit
    | (refine W.condA (ht := fun hb => ?_) (hf := fun hb => ?_) <;> (try simp at hb) <;> (try (exfalso; omega))))
  exact Fin.ret ResL.auto
end
section
open Go.RowKit
theorem flat_len {ps : List Str} (h : ∀ p ∈ ps, p.length ≤ 5) : ps.flatten.length ≤ 5 * ps.length := by
  induction ps with
  | nil => simp
  | cons p ps ih =>
    have h1 := h p (by simp)
    have h2 := ih fun q hq => h q (by simp [hq])
    simp only [List.flatten_cons, List.length_append, List.length_cons]
    omega
structure TextI (x : Int) (ps : List Str) (u : Int) : Prop where
  u0 : 0 ≤ u
  cnt : u * pk ps.length ≤ mag x
  some : 0 < u → decZ (mag x) = decZ u ++ ps.reverse.flatten
  none : u = 0 → decZ (mag x) = ps.reverse.flatten ∧ ps ≠ []
  small : ∀ p ∈ ps, p.length ≤ 5
  few : ps.length ≤ 75
theorem TextI.lt {x u : Int} {ps : List Str} (h : TextI x ps u) (hx : okZ x) (hu : 0 < u) : ps.length < 75 ∧ u < pw 60 := by
  have h1 := h.cnt
  have hp := pk_pos ps.length
  unfold okZ at hx
  constructor
  · by_cases hc : ps.length < 75
    · exact hc
    · have h2 := pk_mono (show 75 ≤ ps.length by omega)
      rw [pk75] at h2
      have h3 : 1 * pk ps.length ≤ u * pk ps.length := Int.mul_le_mul_of_nonneg_right (by omega) (by omega)
      omega
  · have h3 : u * 1 ≤ u * pk ps.length := Int.mul_le_mul_of_nonneg_left (by omega) (by omega)
    omega
theorem TextI.step {x u : Int} {ps : List Str} (h : TextI x ps u) (hx : okZ x) (hu : 0 < u) {s : Str} (hs : s = if 0 < u / 100000 then padZ (u % 100000) else decZ (u % 100000)) : TextI x (ps ++ [s]) (u / 100000) := by
  have h1 := h.lt hx hu
  have h2 := h.cnt
  have h3 := h.some hu
  have hp := pk_pos ps.length
  have hr := dec_short (r := u % 100000) (by omega)
  have e1 : (ps ++ [s]).reverse.flatten = s ++ ps.reverse.flatten := by simp
  refine ⟨by omega, ?_, fun hq => ?_, fun hq => ⟨?_, by simp⟩, fun p hm => ?_, by simp; omega⟩
  · rw [List.length_append, List.length_singleton, pk]
    have h4 : u / 100000 * (65536 * pk ps.length) = (u / 100000 * 65536) * pk ps.length := by grind
    have h5 : (u / 100000 * 65536) * pk ps.length ≤ u * pk ps.length := Int.mul_le_mul_of_nonneg_right (by omega) (by omega)
    omega
  · rw [e1, h3, dec_div (u := u) (by omega), hs, if_pos hq, List.append_assoc]
  · rw [e1, h3, hs, if_neg (by omega), show u % 100000 = u by omega]
  · rcases List.mem_append.1 hm with hm | hm
    · exact h.small p hm
    · rw [List.mem_singleton] at hm
      subst hm
      rw [hs]
      split
      · unfold padZ
        rw [List.length_append, Lib.repeatL_length]
        simp; omega
      · exact hr
theorem join_flat (l : List Str) : Lib.join l [] = l.flatten := by
  unfold Lib.join
  induction l with
  | nil => rfl
  | cons s l ih =>
    cases l with
    | nil => simp [List.intercalate]
    | cons t l =>
      simp [List.intercalate, List.intersperse] at ih ⊢
      exact ih
theorem rev_nil : ACalls Tryz.prog 90 [slS []] (.tup []) where
  fn := ⟨_, Tryz.func90, by kernel_rfl, rfl⟩
  calls := fun Φ w vs hfit harg => by
    obtain ⟨v, rfl, r0⟩ := args1 harg
    have r0' : Rel Φ v (.sl []) := r0
    have key : ∀ (a : Option Addr) (cap : Nat), Calls Tryz.prog 90 #[.slice a 0 cap] w (fun e w' => ∃ v Φ', e = .returned v ∧ AVRel Φ' (fun _ => none) [] v (.tup []) ∧ Φ.le Φ' ∧ (∀ b, b < w.heap.size → Φ' b = Φ b) ∧ Fits Φ' w' ∧ Below w.heap.size w w') := fun a cap =>
      (Tryz.slices_Reverse_string_empty a cap w).mono fun e w' ⟨he, hw⟩ => fin_flat hfit (v0 := .tuple #[]) (r := .tup []) ⟨#[], rfl, rfl, fun j p h => by simp at h⟩ he (hw ▸ Below.refl _ _)
    generalize hr : ([] : List (List Cell)) = rows at r0'
    cases r0' with
    | sl0 => exact key _ _
    | slE a cap => exact key _ _
    | sl b off len cap sz rows f hlen hcap hsz2 hc hrel => subst hr; simp at hlen; subst hlen; exact key _ _
theorem text_zero : GCalls Tryz.prog 3 powC 61 [zB 0] (.pv (cS (txtZ 0))) := by
  have h1 := right_yes okZ.zero
  have h2 := rev_nil
  have h3 := join_ok [] [] (by simp) (by simp [Lib.join_nil])
  have e2 : txtZ 0 = [48] := by rw [txtZ, if_neg (by omega), decZ, show (0 : Int).toNat = 0 from rfl, Lib.decDigits_one (by omega)]; rfl
  rw [e2]
  rw [zB0] at h1 ⊢
  refine GCalls.of_M TYok (qs := [cS [48]]) [.tmp 2] 51 Tryz.func61 (by kernel_rfl) rfl rfl rfl fun G hG => ?_
  refine W.initA (hw := ?_)
  repeat' (first
    | ((first | apply U_); (first
    | exact QX.Move TYok
    | exact QX.Asg TYok
    | exact QX.Fld TYok
    | exact QX.Ld TYok
    | exact QX.Bin TYok
    | exact QX.Un TYok
    | exact QX.Len TYok
    | exact QX.Ext TYok
    | (apply Q_call (h1); exact EvL.auto; exact rfl)); exact rfl)
    | refine SX.Lit TYok (h := ?_)
    | refine SX.App TYok (h := ?_)
    | refine SX.Box TYok (h := ?_)
    | apply RG.nil
    | apply Lex.nil
    | apply Then.n
    | apply Then.r
    | apply Then.x
    | apply InBlock.n
    | apply InBlock.r
    | apply InBlock.hit
    | (apply InBlock.miss; exact rfl)
    | apply W.seq
    | apply W.region
    | apply W.block
    | apply W.skip
    | apply W.ret
    | apply W.exit
    | (apply S_isnil TYok; exact rfl; exact rfl; exact rfl; exact Ev.auto; intro bn hnil)
    | (refine W.condA (ht := fun hb => ?_) (hf := fun hb => ?_) <;> (try simp at hb) <;> (try (exfalso; omega))))
  apply W.loopP (σ := Unit) 51 [1] (fun _ => True) (fun _ => [(3, (True, .pv (.one .slnil))), (4, (True, .pv (slI [])))]) (fun _ => [(1, ⟨24, 2, [[.int .i64 0, .sl []]]⟩)]) (fun _ => 0) (())
  case hp => repeat (first | exact Pick.nil | apply Pick.cons rfl)
  case h0 =>
    refine ⟨trivial, ?_⟩
    exact Le.auto
  case round =>
    rintro ⟨⟩ -
    apply W.norm (by repeat (first | exact App.nil | apply App.cons))
    repeat' (first
      | ((first | apply U_); (first
    | exact QX.Move TYok
    | exact QX.Asg TYok
    | exact QX.Fld TYok
    | exact QX.Ld TYok
    | exact QX.Bin TYok
    | exact QX.Un TYok
    | exact QX.Len TYok
    | exact QX.Ext TYok
    | (apply Q_calld (h2); exact EvD.auto)
    | (apply Q_calld (h3); exact EvD.auto)); exact rfl)
      | refine SX.Lit TYok (h := ?_)
      | refine SX.App TYok (h := ?_)
      | refine SX.Box TYok (h := ?_)
      | apply RG.nil
      | apply Lex.nil
      | apply Then.n
      | apply Then.r
      | apply Then.x
      | apply InBlock.n
      | apply InBlock.r
      | apply InBlock.hit
      | (apply InBlock.miss; exact rfl)
      | apply W.seq
      | apply W.region
      | apply W.block
      | apply W.skip
      | apply W.ret
      | apply W.exit
      | (apply S_isnil TYok; exact rfl; exact rfl; exact rfl; exact Ev.auto; intro bn hnil)
      | (refine W.condA (ht := fun hb => ?_) (hf := fun hb => ?_) <;> (try simp at hb) <;> (try (exfalso; omega))))
    exact FinM.ret ResM.auto
theorem text_more (x : Int) (hx : okZ x) (h0 : x ≠ 0) : GCalls Tryz.prog 3 powC 61 [zB x] (.pv (cS (txtZ x))) := by
  have h1 := right_yes hx
  have c1 := sgn_cases x
  have m0 := mag_nn x
  refine GCalls.of_M TYok (qs := [cS (txtZ x)]) [.tmp 2] 51 Tryz.func61 (by kernel_rfl) rfl rfl rfl fun G hG => ?_
  refine W.initA (hw := ?_)
  repeat' (first
    | ((first | apply U_); (first
    | exact QX.Move TYok
    | exact QX.Asg TYok
    | exact QX.Fld TYok
    | exact QX.Ld TYok
    | exact QX.Bin TYok
    | exact QX.Un TYok
    | exact QX.Len TYok
    | exact QX.Ext TYok
    | (apply Q_call (h1); exact EvL.auto; exact rfl)); exact rfl)
    | refine SX.Lit TYok (h := ?_)
    | refine SX.App TYok (h := ?_)
    | refine SX.Box TYok (h := ?_)
    | apply RG.nil
    | apply Lex.nil
    | apply Then.n
    | apply Then.r
    | apply Then.x
    | apply InBlock.n
    | apply InBlock.r
    | apply InBlock.hit
    | (apply InBlock.miss; exact rfl)
    | apply W.seq
    | apply W.region
    | apply W.block
    | apply W.skip
    | apply W.ret
    | apply W.exit
    | (apply S_isnil TYok; exact rfl; exact rfl; exact rfl; exact Ev.auto; intro bn hnil)
    | (refine W.condA (ht := fun hb => ?_) (hf := fun hb => ?_) <;> (try simp at hb) <;> (try (exfalso; omega))))
  refine W.weaken (Le.nilOwn (t := 3) (n := 36) (E := 9) (sz := 1) rfl) ?_
  apply W.loopP (σ := Int × List Str) 51 [] (fun (u, ps) => TextI x ps u) (fun (u, ps) => [(3, (True, .slc 36)), (4, (True, .pv (slI (digs u)))), (1, (True, .addr 1 0 0))]) (fun (u, ps) => [(1, ⟨24, 2, [[.int .i64 (sgn x), .sl ((digs (mag x)).map Lf.encI)]]⟩), (36, ⟨9, 1, ps.map encS⟩)]) (fun (u, ps) => u.toNat) ((mag x, []))
  case hp => repeat (first | exact Pick.nil | apply Pick.cons rfl)
  case h0 =>
    refine ⟨⟨m0, by simp [pk], fun _ => by simp, fun h => by omega, fun p hp => by simp at hp, by simp⟩, ?_⟩
    exact Le.auto
  case round =>
    rintro ⟨u, ps⟩ g1
    dsimp only at g1 ⊢
    have g2 := g1.u0
    apply W.norm (by repeat (first | exact App.nil | apply App.cons))
    by_cases hu : 0 < u
    · obtain ⟨g3, g4⟩ := g1.lt hx hu
      have hl := (digs_len g2).2 g4
      have hne : digs u ≠ [] := fun e => by rw [digs_nil g2] at e; omega
      have h2 := short_ok (digs u) 100000 (digs_norm _).dig (by omega) (by omega)
      rw [val_digs g2] at h2
      have hr : 0 ≤ u % 100000 ∧ u % 100000 < 100000 := by omega
      have h3 := itoa_ok (u % 100000) (by unfold i64B; omega)
      rw [itoa_decZ hr.1] at h3
      have hs5 := dec_short hr
      by_cases hq : 0 < u / 100000
      · have hqn : digs (u / 100000) ≠ [] := fun e => by rw [digs_nil (by omega)] at e; omega
        have h4 := repeat_ok [48] (5 - (decZ (u % 100000)).length) (by simp; try omega) (by omega)
        have e4 : ((5 - (decZ (u % 100000)).length : Nat) : Int) = 5 - ((decZ (u % 100000)).length : Int) := by omega
        rw [e4] at h4
        have g5 := g1.step hx hu (s := padZ (u % 100000)) (by rw [if_pos hq])
        have hpl : (Lib.repeatL [48] (5 - (decZ (u % 100000)).length)).length ≤ 5 := by rw [Lib.repeatL_length]; simp
        have ep : padZ (u % 100000) = Lib.repeatL [48] (5 - (decZ (u % 100000)).length) ++ decZ (u % 100000) := rfl
        repeat' (first
          | ((first | apply U_); (first
    | exact QX.Move TYok
    | exact QX.Asg TYok
    | exact QX.Fld TYok
    | exact QX.Ld TYok
    | exact QX.Bin TYok
    | exact QX.Un TYok
    | exact QX.Len TYok
    | exact QX.Ext TYok
    | (apply Q_calld (h2); exact EvD.auto)
    | (apply Q_callG hG (h3); exact EvL.auto; exact rfl)
    | (apply Q_calld (h4); exact EvD.auto)); exact rfl)
          | refine SX.Lit TYok (h := ?_)
          | refine SX.App TYok (h := ?_)
          | refine SX.Box TYok (h := ?_)
          | apply RG.nil
          | apply Lex.nil
          | apply Then.n
          | apply Then.r
          | apply Then.x
          | apply InBlock.n
          | apply InBlock.r
          | apply InBlock.hit
          | (apply InBlock.miss; exact rfl)
          | apply W.seq
          | apply W.region
          | apply W.block
          | apply W.skip
          | apply W.ret
          | apply W.exit
          | (apply S_isnil TYok; exact rfl; exact rfl; exact rfl; exact Ev.auto; intro bn hnil)
          | (refine W.condA (ht := fun hb => ?_) (hf := fun hb => ?_) <;> (try simp at hb) <;> (try (exfalso; omega))))
        all_goals first
          | exact absurd hb hqn
          | exact absurd hb hne
          | (refine ⟨(u / 100000, ps ++ [padZ (u % 100000)]), g5, ?_, by (try simp only); omega⟩
             simp only [← ep]
             exact Le.auto)
      · have hqn : digs (u / 100000) = [] := (digs_nil (by omega)).2 (by omega)
        have g5 := g1.step hx hu (s := decZ (u % 100000)) (by rw [if_neg hq])
        repeat' (first
          | ((first | apply U_); (first
    | exact QX.Move TYok
    | exact QX.Asg TYok
    | exact QX.Fld TYok
    | exact QX.Ld TYok
    | exact QX.Bin TYok
    | exact QX.Un TYok
    | exact QX.Len TYok
    | exact QX.Ext TYok
    | (apply Q_calld (h2); exact EvD.auto)
    | (apply Q_callG hG (h3); exact EvL.auto; exact rfl)); exact rfl)
          | refine SX.Lit TYok (h := ?_)
          | refine SX.App TYok (h := ?_)
          | refine SX.Box TYok (h := ?_)
          | apply RG.nil
          | apply Lex.nil
          | apply Then.n
          | apply Then.r
          | apply Then.x
          | apply InBlock.n
          | apply InBlock.r
          | apply InBlock.hit
          | (apply InBlock.miss; exact rfl)
          | apply W.seq
          | apply W.region
          | apply W.block
          | apply W.skip
          | apply W.ret
          | apply W.exit
          | (apply S_isnil TYok; exact rfl; exact rfl; exact rfl; exact Ev.auto; intro bn hnil)
          | (refine W.condA (ht := fun hb => ?_) (hf := fun hb => ?_) <;> (try simp at hb) <;> (try (exfalso; omega))))
        all_goals first
          | exact absurd hb hne
          | (exfalso; rw [hqn] at hb; simp at hb; done)
          | (refine ⟨(u / 100000, ps ++ [decZ (u % 100000)]), g5, ?_, by (try simp only); omega⟩
             exact Le.auto)
    · obtain rfl : u = 0 := by omega
      obtain ⟨g3, g4⟩ := g1.none rfl
      have hlr := reverse_lent ps (by have := g1.few; omega)
      have k1 : ps.map encS ≠ [] := fun e => g4 (List.map_eq_nil_iff.1 e)
      have k2 : (ps.reverse.map encS).length = (ps.map encS).length := by simp
      have hfl := flat_len (ps := ps.reverse) (fun p hp => g1.small p (List.mem_reverse.1 hp))
      have h4 := join_ok ps.reverse [] (by have := g1.few; simp; omega) (by rw [join_flat]; have := g1.few; simp at hfl ⊢; omega)
      rw [join_flat, ← g3] at h4
      have hd0 : digs (0 : Int) = [] := (digs_nil (by omega)).2 rfl
      have hlz : (decZ (mag x)).length ≤ 375 := by rw [g3]; have := g1.few; simp at hfl ⊢; omega
      have et : txtZ x = if sgn x = -1 then 45 :: decZ (mag x) else decZ (mag x) := by
        unfold txtZ
        by_cases hn : x < 0
        · rw [if_pos hn, if_pos (by omega), show -x = mag x by omega]
        · have e : mag x = x := by omega
          rw [if_neg hn, if_neg (by omega), e]
      repeat' (first
        | (refine W.weaken (Le.freeze1 (m := 36) rfl) ?_; apply W.region (id := 12))
        | ((first | apply U_); (first
    | exact QX.Move TYok
    | exact QX.Asg TYok
    | exact QX.Fld TYok
    | exact QX.Ld TYok
    | exact QX.Bin TYok
    | exact QX.Un TYok
    | exact QX.Len TYok
    | exact QX.Ext TYok
    | (apply Q_calld (h4); exact EvD.auto)); exact rfl)
        | refine SX.Lit TYok (h := ?_)
        | refine SX.App TYok (h := ?_)
        | refine SX.Box TYok (h := ?_)
        | (apply S_calllend hlr; exact Ev.auto; exact rfl; exact k1; exact k2; exact rfl)
        | apply RG.nil
        | apply Lex.nil
        | apply Then.n
        | apply Then.r
        | apply Then.x
        | apply InBlock.n
        | apply InBlock.r
        | apply InBlock.hit
        | (apply InBlock.miss; exact rfl)
        | apply W.seq
        | apply W.region
        | apply W.block
        | apply W.skip
        | apply W.ret
        | apply W.exit
        | (apply S_isnil TYok; exact rfl; exact rfl; exact rfl; exact Ev.auto; intro bn hnil)
        | (refine W.condA (ht := fun hb => ?_) (hf := fun hb => ?_) <;> (try simp at hb) <;> (try (exfalso; omega))))
      · exfalso; rw [hd0] at hb; simp at hb
      · rw [et, if_pos hb]
        exact FinM.ret ResM.auto
      · rw [et, if_neg hb]
        exact FinM.ret ResM.auto
theorem text_ok (x : Int) (hx : okZ x) : GCalls Tryz.prog 3 powC 61 [zB x] (.pv (cS (txtZ x))) := by
  by_cases h : x = 0
  · subst h; exact text_zero
  · exact text_more x hx h
end
end Go.Proofs.YtipghibmgfhmpaaGreatDoor
