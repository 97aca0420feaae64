/-
  The functions of lex and of its reference that look at single bytes, at words, at numbers and at prefixes: what each returns, as functions on lists of bytes.
-/
import Derived.Test.YtcllkfehcnpdmaaDoorTypes
import Derived.Test.YtcllkfehcnpdmaaDoorSpec
import Derived.Test.YtcllkfehcnpdmaaDoorLfIdx
set_option linter.unusedVariables false
set_option linter.unusedSimpArgs false
set_option maxHeartbeats 8000000
namespace Go.Proofs.YtcllkfehcnpdmaaDoor
open Lf Go LexSpec
attribute [local irreducible] PureOp EffOp Ev RG W Then InBlock Lf.Fin nth App InitE Pick SubE SubF SubG EvL EvD EvP EvR ResL Lf.Lex SubR SubBR RA RAll EvC FinO FinM ResM

def encT (t : Token) : List Cell := [.int .i64 t.kind, .str t.text, .int .i64 t.n, .int .i64 t.pos]
abbrev slT (l : List Token) : PV := .one (.sl (l.map encT))
abbrev aT (t : Token) : PV := .agg (encT t)
abbrev cS (s : Str) : PV := .one (.str s)
abbrev cU8 (c : UInt8) : PV := .one (.int .u8 c.toNat)
theorem byt_nth (s : Str) (k : Nat) : byt s k = nth s k := by unfold nth; rfl

def letterI (c : UInt8) : Bool := decide ((c.toNat : Int) ≥ 97) && decide ((c.toNat : Int) ≤ 122)
def digitI (c : UInt8) : Bool := decide ((c.toNat : Int) ≥ 48) && decide ((c.toNat : Int) ≤ 57)
theorem letter_eq (c : UInt8) : letterF c = letterI c := by
  rw [Bool.eq_iff_iff]; simp [letterF, letterI, UInt8.le_iff_toNat_le]; omega
theorem digit_eq (c : UInt8) : digitF c = digitI c := by
  rw [Bool.eq_iff_iff]; simp [digitF, digitI, UInt8.le_iff_toNat_le]; omega
theorem u8_eq (c d : UInt8) : (c = d) ↔ ((c.toNat : Int) = (d.toNat : Int)) := by
  rw [← UInt8.toNat_inj]; omega
theorem blank1_ok (c : UInt8) : ACalls Tryd.prog 23 [cU8 c] (.pv (cB (blankF c))) := by
  refine ACalls.of_W (qs := [cB (blankF c)]) [2] 13 Tryd.func23 (by kernel_rfl) rfl rfl rfl fun G => ?_
  apply W.init (by repeat (first | exact InitE.nil | apply InitE.c0 | apply InitE.c1 | apply InitE.c2 | apply InitE.c3 | apply InitE.c4 | apply InitE.c5 | apply InitE.c6 | apply InitE.c7 | apply InitE.c8 | apply InitE.c9 | apply InitE.c10 | apply InitE.c11))
  repeat' (first
    | apply RG.nil
    | apply Lex.nil
    | apply Then.n
    | apply Then.r
    | apply Then.x
    | apply InBlock.n
    | apply InBlock.r
    | apply InBlock.hit
    | (apply InBlock.miss; exact rfl)
    | apply W.seq
    | apply W.region
    | apply W.block
    | apply W.skip
    | apply W.ret
    | apply W.exit
    | ((first | apply U_ | (apply Ug_; exact rfl; exact rfl) | (apply Ugq_; exact rfl; exact rfl)); (first
    | (apply Q_move; (refine Ev.of rfl ?_; first | exact fun _ => ⟨⟩ | exact id | exact And.right | exact And.left | exact (·.1.2) | exact (·.1.1) | exact (·.1.1.1) | exact (·.1.1.2)))
    | (apply Q_assign; (refine Ev.of rfl ?_; first | exact fun _ => ⟨⟩ | exact id | exact And.right | exact And.left | exact (·.1.2) | exact (·.1.1) | exact (·.1.1.1) | exact (·.1.1.2)))
    | (apply Q_bin; (refine Ev.of rfl ?_; first | exact fun _ => ⟨⟩ | exact id | exact And.right | exact And.left | exact (·.1.2) | exact (·.1.1) | exact (·.1.1.1) | exact (·.1.1.2)); (refine Ev.of rfl ?_; first | exact fun _ => ⟨⟩ | exact id | exact And.right | exact And.left | exact (·.1.2) | exact (·.1.1) | exact (·.1.1.1) | exact (·.1.1.2)); exact rfl)
    | (apply Q_or; (refine Ev.of rfl ?_; first | exact fun _ => ⟨⟩ | exact id | exact And.right | exact And.left | exact (·.1.2) | exact (·.1.1) | exact (·.1.1.1) | exact (·.1.1.2)); (refine Ev.of rfl ?_; first | exact fun _ => ⟨⟩ | exact id | exact And.right | exact And.left | exact (·.1.2) | exact (·.1.1) | exact (·.1.1.1) | exact (·.1.1.2)))
    | (apply Q_and; (refine Ev.of rfl ?_; first | exact fun _ => ⟨⟩ | exact id | exact And.right | exact And.left | exact (·.1.2) | exact (·.1.1) | exact (·.1.1.1) | exact (·.1.1.2)); (refine Ev.of rfl ?_; first | exact fun _ => ⟨⟩ | exact id | exact And.right | exact And.left | exact (·.1.2) | exact (·.1.1) | exact (·.1.1.1) | exact (·.1.1.2)))
    | (apply Q_binS; (refine Ev.of rfl ?_; first | exact fun _ => ⟨⟩ | exact id | exact And.right | exact And.left | exact (·.1.2) | exact (·.1.1) | exact (·.1.1.1) | exact (·.1.1.2)); (refine Ev.of rfl ?_; first | exact fun _ => ⟨⟩ | exact id | exact And.right | exact And.left | exact (·.1.2) | exact (·.1.1) | exact (·.1.1.1) | exact (·.1.1.2)); exact rfl)
    | (apply Q_binB TYok; (refine Ev.of rfl ?_; first | exact fun _ => ⟨⟩ | exact id | exact And.right | exact And.left | exact (·.1.2) | exact (·.1.1) | exact (·.1.1.1) | exact (·.1.1.2)); (refine Ev.of rfl ?_; first | exact fun _ => ⟨⟩ | exact id | exact And.right | exact And.left | exact (·.1.2) | exact (·.1.1) | exact (·.1.1.1) | exact (·.1.1.2)); exact rfl; exact rfl; exact rfl)); exact rfl)
    | (apply S_isnil TYok; exact rfl; exact rfl; exact rfl; (refine Ev.of rfl ?_; first | exact fun _ => ⟨⟩ | exact id | exact And.right | exact And.left | exact (·.1.2) | exact (·.1.1) | exact (·.1.1.1) | exact (·.1.1.2)); intro bn hnil)
    | (apply RG.gT; exact rfl; exact rfl; (first | assumption | decide))
    | (apply RG.gF; exact rfl; exact rfl; (first | assumption | decide); exact rfl)
    | (refine W.cond (by refine Ev.of rfl ?_; first | exact fun _ => ⟨⟩ | exact id | exact And.right | exact And.left | exact (·.1.2) | exact (·.1.1) | exact (·.1.1.1) | exact (·.1.1.2)) (fun hb => ?_) (fun hb => ?_) <;> (try simp at hb) <;> (try (exfalso; omega))))
  have e : blankF c = (decide ((c.toNat : Int) = 32) || decide ((c.toNat : Int) = 9) || decide ((c.toNat : Int) = 10)) := by
    simp only [blankF, u8_eq]; rfl
  rw [e]
  exact Fin.ret (by repeat (first | exact ResL.nil | refine ResL.cons rfl rfl (by first | exact PSub.rfl' | exact PSub.nil' | (refine PSub.of_eq ?_; simp; done) | (refine PSub.of_eq ?_; simp only [List.map_append, List.map_cons, List.map_nil]; rfl) | (refine PSub.of_eq ?_; simp; rfl)) ?_))
theorem rblank_ok (c : UInt8) : ACalls Tryd.prog 21 [cU8 c] (.pv (cB (blankF c))) := by
  refine ACalls.of_W (qs := [cB (blankF c)]) [2] 13 Tryd.func21 (by kernel_rfl) rfl rfl rfl fun G => ?_
  apply W.init (by repeat (first | exact InitE.nil | apply InitE.c0 | apply InitE.c1 | apply InitE.c2 | apply InitE.c3 | apply InitE.c4 | apply InitE.c5 | apply InitE.c6 | apply InitE.c7 | apply InitE.c8 | apply InitE.c9 | apply InitE.c10 | apply InitE.c11))
  repeat' (first
    | apply RG.nil
    | apply Lex.nil
    | apply Then.n
    | apply Then.r
    | apply Then.x
    | apply InBlock.n
    | apply InBlock.r
    | apply InBlock.hit
    | (apply InBlock.miss; exact rfl)
    | apply W.seq
    | apply W.region
    | apply W.block
    | apply W.skip
    | apply W.ret
    | apply W.exit
    | ((first | apply U_ | (apply Ug_; exact rfl; exact rfl) | (apply Ugq_; exact rfl; exact rfl)); (first
    | (apply Q_move; (refine Ev.of rfl ?_; first | exact fun _ => ⟨⟩ | exact id | exact And.right | exact And.left | exact (·.1.2) | exact (·.1.1) | exact (·.1.1.1) | exact (·.1.1.2)))
    | (apply Q_assign; (refine Ev.of rfl ?_; first | exact fun _ => ⟨⟩ | exact id | exact And.right | exact And.left | exact (·.1.2) | exact (·.1.1) | exact (·.1.1.1) | exact (·.1.1.2)))
    | (apply Q_bin; (refine Ev.of rfl ?_; first | exact fun _ => ⟨⟩ | exact id | exact And.right | exact And.left | exact (·.1.2) | exact (·.1.1) | exact (·.1.1.1) | exact (·.1.1.2)); (refine Ev.of rfl ?_; first | exact fun _ => ⟨⟩ | exact id | exact And.right | exact And.left | exact (·.1.2) | exact (·.1.1) | exact (·.1.1.1) | exact (·.1.1.2)); exact rfl)
    | (apply Q_or; (refine Ev.of rfl ?_; first | exact fun _ => ⟨⟩ | exact id | exact And.right | exact And.left | exact (·.1.2) | exact (·.1.1) | exact (·.1.1.1) | exact (·.1.1.2)); (refine Ev.of rfl ?_; first | exact fun _ => ⟨⟩ | exact id | exact And.right | exact And.left | exact (·.1.2) | exact (·.1.1) | exact (·.1.1.1) | exact (·.1.1.2)))
    | (apply Q_and; (refine Ev.of rfl ?_; first | exact fun _ => ⟨⟩ | exact id | exact And.right | exact And.left | exact (·.1.2) | exact (·.1.1) | exact (·.1.1.1) | exact (·.1.1.2)); (refine Ev.of rfl ?_; first | exact fun _ => ⟨⟩ | exact id | exact And.right | exact And.left | exact (·.1.2) | exact (·.1.1) | exact (·.1.1.1) | exact (·.1.1.2)))
    | (apply Q_binS; (refine Ev.of rfl ?_; first | exact fun _ => ⟨⟩ | exact id | exact And.right | exact And.left | exact (·.1.2) | exact (·.1.1) | exact (·.1.1.1) | exact (·.1.1.2)); (refine Ev.of rfl ?_; first | exact fun _ => ⟨⟩ | exact id | exact And.right | exact And.left | exact (·.1.2) | exact (·.1.1) | exact (·.1.1.1) | exact (·.1.1.2)); exact rfl)
    | (apply Q_binB TYok; (refine Ev.of rfl ?_; first | exact fun _ => ⟨⟩ | exact id | exact And.right | exact And.left | exact (·.1.2) | exact (·.1.1) | exact (·.1.1.1) | exact (·.1.1.2)); (refine Ev.of rfl ?_; first | exact fun _ => ⟨⟩ | exact id | exact And.right | exact And.left | exact (·.1.2) | exact (·.1.1) | exact (·.1.1.1) | exact (·.1.1.2)); exact rfl; exact rfl; exact rfl)); exact rfl)
    | (apply S_isnil TYok; exact rfl; exact rfl; exact rfl; (refine Ev.of rfl ?_; first | exact fun _ => ⟨⟩ | exact id | exact And.right | exact And.left | exact (·.1.2) | exact (·.1.1) | exact (·.1.1.1) | exact (·.1.1.2)); intro bn hnil)
    | (apply RG.gT; exact rfl; exact rfl; (first | assumption | decide))
    | (apply RG.gF; exact rfl; exact rfl; (first | assumption | decide); exact rfl)
    | (refine W.cond (by refine Ev.of rfl ?_; first | exact fun _ => ⟨⟩ | exact id | exact And.right | exact And.left | exact (·.1.2) | exact (·.1.1) | exact (·.1.1.1) | exact (·.1.1.2)) (fun hb => ?_) (fun hb => ?_) <;> (try simp at hb) <;> (try (exfalso; omega))))
  have e : blankF c = (decide ((c.toNat : Int) = 9) || decide ((c.toNat : Int) = 10) || decide ((c.toNat : Int) = 32)) := by
    rw [Bool.eq_iff_iff]
    simp only [blankF, u8_eq, Bool.or_eq_true, decide_eq_true_eq]
    simp only [show (32 : UInt8).toNat = 32 from rfl, show (9 : UInt8).toNat = 9 from rfl, show (10 : UInt8).toNat = 10 from rfl]
    omega
  rw [e]
  exact Fin.ret (by repeat (first | exact ResL.nil | refine ResL.cons rfl rfl (by first | exact PSub.rfl' | exact PSub.nil' | (refine PSub.of_eq ?_; simp; done) | (refine PSub.of_eq ?_; simp only [List.map_append, List.map_cons, List.map_nil]; rfl) | (refine PSub.of_eq ?_; simp; rfl)) ?_))
theorem letter_ok (c : UInt8) : ACalls Tryd.prog 28 [cU8 c] (.pv (cB (letterF c))) := by
  rw [letter_eq]
  refine ACalls.of_W (qs := [_]) [2] 9 Tryd.func28 (by kernel_rfl) rfl rfl rfl fun G => ?_
  apply W.init (by repeat (first | exact InitE.nil | apply InitE.c0 | apply InitE.c1 | apply InitE.c2 | apply InitE.c3 | apply InitE.c4 | apply InitE.c5 | apply InitE.c6 | apply InitE.c7 | apply InitE.c8 | apply InitE.c9 | apply InitE.c10 | apply InitE.c11))
  repeat' (first
    | apply RG.nil
    | apply Lex.nil
    | apply Then.n
    | apply Then.r
    | apply Then.x
    | apply InBlock.n
    | apply InBlock.r
    | apply InBlock.hit
    | (apply InBlock.miss; exact rfl)
    | apply W.seq
    | apply W.region
    | apply W.block
    | apply W.skip
    | apply W.ret
    | apply W.exit
    | ((first | apply U_ | (apply Ug_; exact rfl; exact rfl) | (apply Ugq_; exact rfl; exact rfl)); (first
    | (apply Q_move; (refine Ev.of rfl ?_; first | exact fun _ => ⟨⟩ | exact id | exact And.right | exact And.left | exact (·.1.2) | exact (·.1.1) | exact (·.1.1.1) | exact (·.1.1.2)))
    | (apply Q_assign; (refine Ev.of rfl ?_; first | exact fun _ => ⟨⟩ | exact id | exact And.right | exact And.left | exact (·.1.2) | exact (·.1.1) | exact (·.1.1.1) | exact (·.1.1.2)))
    | (apply Q_bin; (refine Ev.of rfl ?_; first | exact fun _ => ⟨⟩ | exact id | exact And.right | exact And.left | exact (·.1.2) | exact (·.1.1) | exact (·.1.1.1) | exact (·.1.1.2)); (refine Ev.of rfl ?_; first | exact fun _ => ⟨⟩ | exact id | exact And.right | exact And.left | exact (·.1.2) | exact (·.1.1) | exact (·.1.1.1) | exact (·.1.1.2)); exact rfl)
    | (apply Q_or; (refine Ev.of rfl ?_; first | exact fun _ => ⟨⟩ | exact id | exact And.right | exact And.left | exact (·.1.2) | exact (·.1.1) | exact (·.1.1.1) | exact (·.1.1.2)); (refine Ev.of rfl ?_; first | exact fun _ => ⟨⟩ | exact id | exact And.right | exact And.left | exact (·.1.2) | exact (·.1.1) | exact (·.1.1.1) | exact (·.1.1.2)))
    | (apply Q_and; (refine Ev.of rfl ?_; first | exact fun _ => ⟨⟩ | exact id | exact And.right | exact And.left | exact (·.1.2) | exact (·.1.1) | exact (·.1.1.1) | exact (·.1.1.2)); (refine Ev.of rfl ?_; first | exact fun _ => ⟨⟩ | exact id | exact And.right | exact And.left | exact (·.1.2) | exact (·.1.1) | exact (·.1.1.1) | exact (·.1.1.2)))
    | (apply Q_binS; (refine Ev.of rfl ?_; first | exact fun _ => ⟨⟩ | exact id | exact And.right | exact And.left | exact (·.1.2) | exact (·.1.1) | exact (·.1.1.1) | exact (·.1.1.2)); (refine Ev.of rfl ?_; first | exact fun _ => ⟨⟩ | exact id | exact And.right | exact And.left | exact (·.1.2) | exact (·.1.1) | exact (·.1.1.1) | exact (·.1.1.2)); exact rfl)); exact rfl)
    | (apply RG.gT; exact rfl; exact rfl; (first | assumption | decide))
    | (apply RG.gF; exact rfl; exact rfl; (first | assumption | decide); exact rfl)
    | (refine W.cond (by refine Ev.of rfl ?_; first | exact fun _ => ⟨⟩ | exact id | exact And.right | exact And.left | exact (·.1.2) | exact (·.1.1) | exact (·.1.1.1) | exact (·.1.1.2)) (fun hb => ?_) (fun hb => ?_) <;> (try simp at hb) <;> (try (exfalso; omega))))
  exact Fin.ret (by repeat (first | exact ResL.nil | refine ResL.cons rfl rfl (by first | exact PSub.rfl' | exact PSub.nil' | (refine PSub.of_eq ?_; simp; done) | (refine PSub.of_eq ?_; simp only [List.map_append, List.map_cons, List.map_nil]; rfl) | (refine PSub.of_eq ?_; simp; rfl)) ?_))
theorem digit_ok (c : UInt8) : ACalls Tryd.prog 26 [cU8 c] (.pv (cB (digitF c))) := by
  rw [digit_eq]
  refine ACalls.of_W (qs := [_]) [2] 9 Tryd.func26 (by kernel_rfl) rfl rfl rfl fun G => ?_
  apply W.init (by repeat (first | exact InitE.nil | apply InitE.c0 | apply InitE.c1 | apply InitE.c2 | apply InitE.c3 | apply InitE.c4 | apply InitE.c5 | apply InitE.c6 | apply InitE.c7 | apply InitE.c8 | apply InitE.c9 | apply InitE.c10 | apply InitE.c11))
  repeat' (first
    | apply RG.nil
    | apply Lex.nil
    | apply Then.n
    | apply Then.r
    | apply Then.x
    | apply InBlock.n
    | apply InBlock.r
    | apply InBlock.hit
    | (apply InBlock.miss; exact rfl)
    | apply W.seq
    | apply W.region
    | apply W.block
    | apply W.skip
    | apply W.ret
    | apply W.exit
    | ((first | apply U_ | (apply Ug_; exact rfl; exact rfl) | (apply Ugq_; exact rfl; exact rfl)); (first
    | (apply Q_move; (refine Ev.of rfl ?_; first | exact fun _ => ⟨⟩ | exact id | exact And.right | exact And.left | exact (·.1.2) | exact (·.1.1) | exact (·.1.1.1) | exact (·.1.1.2)))
    | (apply Q_assign; (refine Ev.of rfl ?_; first | exact fun _ => ⟨⟩ | exact id | exact And.right | exact And.left | exact (·.1.2) | exact (·.1.1) | exact (·.1.1.1) | exact (·.1.1.2)))
    | (apply Q_bin; (refine Ev.of rfl ?_; first | exact fun _ => ⟨⟩ | exact id | exact And.right | exact And.left | exact (·.1.2) | exact (·.1.1) | exact (·.1.1.1) | exact (·.1.1.2)); (refine Ev.of rfl ?_; first | exact fun _ => ⟨⟩ | exact id | exact And.right | exact And.left | exact (·.1.2) | exact (·.1.1) | exact (·.1.1.1) | exact (·.1.1.2)); exact rfl)
    | (apply Q_or; (refine Ev.of rfl ?_; first | exact fun _ => ⟨⟩ | exact id | exact And.right | exact And.left | exact (·.1.2) | exact (·.1.1) | exact (·.1.1.1) | exact (·.1.1.2)); (refine Ev.of rfl ?_; first | exact fun _ => ⟨⟩ | exact id | exact And.right | exact And.left | exact (·.1.2) | exact (·.1.1) | exact (·.1.1.1) | exact (·.1.1.2)))
    | (apply Q_and; (refine Ev.of rfl ?_; first | exact fun _ => ⟨⟩ | exact id | exact And.right | exact And.left | exact (·.1.2) | exact (·.1.1) | exact (·.1.1.1) | exact (·.1.1.2)); (refine Ev.of rfl ?_; first | exact fun _ => ⟨⟩ | exact id | exact And.right | exact And.left | exact (·.1.2) | exact (·.1.1) | exact (·.1.1.1) | exact (·.1.1.2)))
    | (apply Q_binS; (refine Ev.of rfl ?_; first | exact fun _ => ⟨⟩ | exact id | exact And.right | exact And.left | exact (·.1.2) | exact (·.1.1) | exact (·.1.1.1) | exact (·.1.1.2)); (refine Ev.of rfl ?_; first | exact fun _ => ⟨⟩ | exact id | exact And.right | exact And.left | exact (·.1.2) | exact (·.1.1) | exact (·.1.1.1) | exact (·.1.1.2)); exact rfl)); exact rfl)
    | (apply RG.gT; exact rfl; exact rfl; (first | assumption | decide))
    | (apply RG.gF; exact rfl; exact rfl; (first | assumption | decide); exact rfl)
    | (refine W.cond (by refine Ev.of rfl ?_; first | exact fun _ => ⟨⟩ | exact id | exact And.right | exact And.left | exact (·.1.2) | exact (·.1.1) | exact (·.1.1.1) | exact (·.1.1.2)) (fun hb => ?_) (fun hb => ?_) <;> (try simp at hb) <;> (try (exfalso; omega))))
  exact Fin.ret (by repeat (first | exact ResL.nil | refine ResL.cons rfl rfl (by first | exact PSub.rfl' | exact PSub.nil' | (refine PSub.of_eq ?_; simp; done) | (refine PSub.of_eq ?_; simp only [List.map_append, List.map_cons, List.map_nil]; rfl) | (refine PSub.of_eq ?_; simp; rfl)) ?_))
theorem rletter_ok (c : UInt8) : ACalls Tryd.prog 30 [cU8 c] (.pv (cB (letterF c))) := by
  rw [letter_eq]
  refine ACalls.of_W (qs := [_]) [2] 9 Tryd.func30 (by kernel_rfl) rfl rfl rfl fun G => ?_
  apply W.init (by repeat (first | exact InitE.nil | apply InitE.c0 | apply InitE.c1 | apply InitE.c2 | apply InitE.c3 | apply InitE.c4 | apply InitE.c5 | apply InitE.c6 | apply InitE.c7 | apply InitE.c8 | apply InitE.c9 | apply InitE.c10 | apply InitE.c11))
  repeat' (first
    | apply RG.nil
    | apply Lex.nil
    | apply Then.n
    | apply Then.r
    | apply Then.x
    | apply InBlock.n
    | apply InBlock.r
    | apply InBlock.hit
    | (apply InBlock.miss; exact rfl)
    | apply W.seq
    | apply W.region
    | apply W.block
    | apply W.skip
    | apply W.ret
    | apply W.exit
    | ((first | apply U_ | (apply Ug_; exact rfl; exact rfl) | (apply Ugq_; exact rfl; exact rfl)); (first
    | (apply Q_move; (refine Ev.of rfl ?_; first | exact fun _ => ⟨⟩ | exact id | exact And.right | exact And.left | exact (·.1.2) | exact (·.1.1) | exact (·.1.1.1) | exact (·.1.1.2)))
    | (apply Q_assign; (refine Ev.of rfl ?_; first | exact fun _ => ⟨⟩ | exact id | exact And.right | exact And.left | exact (·.1.2) | exact (·.1.1) | exact (·.1.1.1) | exact (·.1.1.2)))
    | (apply Q_bin; (refine Ev.of rfl ?_; first | exact fun _ => ⟨⟩ | exact id | exact And.right | exact And.left | exact (·.1.2) | exact (·.1.1) | exact (·.1.1.1) | exact (·.1.1.2)); (refine Ev.of rfl ?_; first | exact fun _ => ⟨⟩ | exact id | exact And.right | exact And.left | exact (·.1.2) | exact (·.1.1) | exact (·.1.1.1) | exact (·.1.1.2)); exact rfl)
    | (apply Q_or; (refine Ev.of rfl ?_; first | exact fun _ => ⟨⟩ | exact id | exact And.right | exact And.left | exact (·.1.2) | exact (·.1.1) | exact (·.1.1.1) | exact (·.1.1.2)); (refine Ev.of rfl ?_; first | exact fun _ => ⟨⟩ | exact id | exact And.right | exact And.left | exact (·.1.2) | exact (·.1.1) | exact (·.1.1.1) | exact (·.1.1.2)))
    | (apply Q_and; (refine Ev.of rfl ?_; first | exact fun _ => ⟨⟩ | exact id | exact And.right | exact And.left | exact (·.1.2) | exact (·.1.1) | exact (·.1.1.1) | exact (·.1.1.2)); (refine Ev.of rfl ?_; first | exact fun _ => ⟨⟩ | exact id | exact And.right | exact And.left | exact (·.1.2) | exact (·.1.1) | exact (·.1.1.1) | exact (·.1.1.2)))
    | (apply Q_binS; (refine Ev.of rfl ?_; first | exact fun _ => ⟨⟩ | exact id | exact And.right | exact And.left | exact (·.1.2) | exact (·.1.1) | exact (·.1.1.1) | exact (·.1.1.2)); (refine Ev.of rfl ?_; first | exact fun _ => ⟨⟩ | exact id | exact And.right | exact And.left | exact (·.1.2) | exact (·.1.1) | exact (·.1.1.1) | exact (·.1.1.2)); exact rfl)); exact rfl)
    | (apply RG.gT; exact rfl; exact rfl; (first | assumption | decide))
    | (apply RG.gF; exact rfl; exact rfl; (first | assumption | decide); exact rfl)
    | (refine W.cond (by refine Ev.of rfl ?_; first | exact fun _ => ⟨⟩ | exact id | exact And.right | exact And.left | exact (·.1.2) | exact (·.1.1) | exact (·.1.1.1) | exact (·.1.1.2)) (fun hb => ?_) (fun hb => ?_) <;> (try simp at hb) <;> (try (exfalso; omega))))
  exact Fin.ret (by repeat (first | exact ResL.nil | refine ResL.cons rfl rfl (by first | exact PSub.rfl' | exact PSub.nil' | (refine PSub.of_eq ?_; simp; done) | (refine PSub.of_eq ?_; simp only [List.map_append, List.map_cons, List.map_nil]; rfl) | (refine PSub.of_eq ?_; simp; rfl)) ?_))
theorem rdigit_ok (c : UInt8) : ACalls Tryd.prog 27 [cU8 c] (.pv (cB (digitF c))) := by
  rw [digit_eq]
  refine ACalls.of_W (qs := [_]) [2] 9 Tryd.func27 (by kernel_rfl) rfl rfl rfl fun G => ?_
  apply W.init (by repeat (first | exact InitE.nil | apply InitE.c0 | apply InitE.c1 | apply InitE.c2 | apply InitE.c3 | apply InitE.c4 | apply InitE.c5 | apply InitE.c6 | apply InitE.c7 | apply InitE.c8 | apply InitE.c9 | apply InitE.c10 | apply InitE.c11))
  repeat' (first
    | apply RG.nil
    | apply Lex.nil
    | apply Then.n
    | apply Then.r
    | apply Then.x
    | apply InBlock.n
    | apply InBlock.r
    | apply InBlock.hit
    | (apply InBlock.miss; exact rfl)
    | apply W.seq
    | apply W.region
    | apply W.block
    | apply W.skip
    | apply W.ret
    | apply W.exit
    | ((first | apply U_ | (apply Ug_; exact rfl; exact rfl) | (apply Ugq_; exact rfl; exact rfl)); (first
    | (apply Q_move; (refine Ev.of rfl ?_; first | exact fun _ => ⟨⟩ | exact id | exact And.right | exact And.left | exact (·.1.2) | exact (·.1.1) | exact (·.1.1.1) | exact (·.1.1.2)))
    | (apply Q_assign; (refine Ev.of rfl ?_; first | exact fun _ => ⟨⟩ | exact id | exact And.right | exact And.left | exact (·.1.2) | exact (·.1.1) | exact (·.1.1.1) | exact (·.1.1.2)))
    | (apply Q_bin; (refine Ev.of rfl ?_; first | exact fun _ => ⟨⟩ | exact id | exact And.right | exact And.left | exact (·.1.2) | exact (·.1.1) | exact (·.1.1.1) | exact (·.1.1.2)); (refine Ev.of rfl ?_; first | exact fun _ => ⟨⟩ | exact id | exact And.right | exact And.left | exact (·.1.2) | exact (·.1.1) | exact (·.1.1.1) | exact (·.1.1.2)); exact rfl)
    | (apply Q_or; (refine Ev.of rfl ?_; first | exact fun _ => ⟨⟩ | exact id | exact And.right | exact And.left | exact (·.1.2) | exact (·.1.1) | exact (·.1.1.1) | exact (·.1.1.2)); (refine Ev.of rfl ?_; first | exact fun _ => ⟨⟩ | exact id | exact And.right | exact And.left | exact (·.1.2) | exact (·.1.1) | exact (·.1.1.1) | exact (·.1.1.2)))
    | (apply Q_and; (refine Ev.of rfl ?_; first | exact fun _ => ⟨⟩ | exact id | exact And.right | exact And.left | exact (·.1.2) | exact (·.1.1) | exact (·.1.1.1) | exact (·.1.1.2)); (refine Ev.of rfl ?_; first | exact fun _ => ⟨⟩ | exact id | exact And.right | exact And.left | exact (·.1.2) | exact (·.1.1) | exact (·.1.1.1) | exact (·.1.1.2)))
    | (apply Q_binS; (refine Ev.of rfl ?_; first | exact fun _ => ⟨⟩ | exact id | exact And.right | exact And.left | exact (·.1.2) | exact (·.1.1) | exact (·.1.1.1) | exact (·.1.1.2)); (refine Ev.of rfl ?_; first | exact fun _ => ⟨⟩ | exact id | exact And.right | exact And.left | exact (·.1.2) | exact (·.1.1) | exact (·.1.1.1) | exact (·.1.1.2)); exact rfl)); exact rfl)
    | (apply RG.gT; exact rfl; exact rfl; (first | assumption | decide))
    | (apply RG.gF; exact rfl; exact rfl; (first | assumption | decide); exact rfl)
    | (refine W.cond (by refine Ev.of rfl ?_; first | exact fun _ => ⟨⟩ | exact id | exact And.right | exact And.left | exact (·.1.2) | exact (·.1.1) | exact (·.1.1.1) | exact (·.1.1.2)) (fun hb => ?_) (fun hb => ?_) <;> (try simp at hb) <;> (try (exfalso; omega))))
  exact Fin.ret (by repeat (first | exact ResL.nil | refine ResL.cons rfl rfl (by first | exact PSub.rfl' | exact PSub.nil' | (refine PSub.of_eq ?_; simp; done) | (refine PSub.of_eq ?_; simp only [List.map_append, List.map_cons, List.map_nil]; rfl) | (refine PSub.of_eq ?_; simp; rfl)) ?_))
theorem alnum1_ok (c : UInt8) : ACalls Tryd.prog 29 [cU8 c] (.pv (cB (alnum c))) := by
  refine ACalls.of_W (qs := [_]) [2] 9 Tryd.func29 (by kernel_rfl) rfl rfl rfl fun G => ?_
  apply W.init (by repeat (first | exact InitE.nil | apply InitE.c0 | apply InitE.c1 | apply InitE.c2 | apply InitE.c3 | apply InitE.c4 | apply InitE.c5 | apply InitE.c6 | apply InitE.c7 | apply InitE.c8 | apply InitE.c9 | apply InitE.c10 | apply InitE.c11))
  repeat' (first
    | apply RG.nil
    | apply Lex.nil
    | apply Then.n
    | apply Then.r
    | apply Then.x
    | apply InBlock.n
    | apply InBlock.r
    | apply InBlock.hit
    | (apply InBlock.miss; exact rfl)
    | apply W.seq
    | apply W.region
    | apply W.block
    | apply W.skip
    | apply W.ret
    | apply W.exit
    | ((first | apply U_ | (apply Ug_; exact rfl; exact rfl) | (apply Ugq_; exact rfl; exact rfl)); (first
    | (apply Q_move; (refine Ev.of rfl ?_; first | exact fun _ => ⟨⟩ | exact id | exact And.right | exact And.left | exact (·.1.2) | exact (·.1.1) | exact (·.1.1.1) | exact (·.1.1.2)))
    | (apply Q_assign; (refine Ev.of rfl ?_; first | exact fun _ => ⟨⟩ | exact id | exact And.right | exact And.left | exact (·.1.2) | exact (·.1.1) | exact (·.1.1.1) | exact (·.1.1.2)))
    | (apply Q_or; (refine Ev.of rfl ?_; first | exact fun _ => ⟨⟩ | exact id | exact And.right | exact And.left | exact (·.1.2) | exact (·.1.1) | exact (·.1.1.1) | exact (·.1.1.2)); (refine Ev.of rfl ?_; first | exact fun _ => ⟨⟩ | exact id | exact And.right | exact And.left | exact (·.1.2) | exact (·.1.1) | exact (·.1.1.1) | exact (·.1.1.2)))
    | (apply Q_and; (refine Ev.of rfl ?_; first | exact fun _ => ⟨⟩ | exact id | exact And.right | exact And.left | exact (·.1.2) | exact (·.1.1) | exact (·.1.1.1) | exact (·.1.1.2)); (refine Ev.of rfl ?_; first | exact fun _ => ⟨⟩ | exact id | exact And.right | exact And.left | exact (·.1.2) | exact (·.1.1) | exact (·.1.1.1) | exact (·.1.1.2)))
    | (apply Q_call (letter_ok c); (repeat (first | exact EvL.nil | refine EvL.cons (by refine Ev.of rfl ?_; first | exact fun _ => ⟨⟩ | exact id | exact And.right | exact And.left | exact (·.1.2) | exact (·.1.1) | exact (·.1.1.1) | exact (·.1.1.2)) rfl (by first | exact PSub.rfl' | exact PSub.nil' | (refine PSub.of_eq ?_; simp only [List.map_append, List.map_cons, List.map_nil, List.nil_append]; rfl)) ?_)); exact rfl)
    | (apply Q_call (digit_ok c); (repeat (first | exact EvL.nil | refine EvL.cons (by refine Ev.of rfl ?_; first | exact fun _ => ⟨⟩ | exact id | exact And.right | exact And.left | exact (·.1.2) | exact (·.1.1) | exact (·.1.1.1) | exact (·.1.1.2)) rfl (by first | exact PSub.rfl' | exact PSub.nil' | (refine PSub.of_eq ?_; simp only [List.map_append, List.map_cons, List.map_nil, List.nil_append]; rfl)) ?_)); exact rfl)); exact rfl)
    | (apply RG.gT; exact rfl; exact rfl; (first | assumption | decide))
    | (apply RG.gF; exact rfl; exact rfl; (first | assumption | decide); exact rfl)
    | (refine W.cond (by refine Ev.of rfl ?_; first | exact fun _ => ⟨⟩ | exact id | exact And.right | exact And.left | exact (·.1.2) | exact (·.1.1) | exact (·.1.1.1) | exact (·.1.1.2)) (fun hb => ?_) (fun hb => ?_) <;> (try simp at hb) <;> (try (exfalso; omega))))
  exact Fin.ret (by repeat (first | exact ResL.nil | refine ResL.cons rfl rfl (by first | exact PSub.rfl' | exact PSub.nil' | (refine PSub.of_eq ?_; simp; done) | (refine PSub.of_eq ?_; simp only [List.map_append, List.map_cons, List.map_nil]; rfl) | (refine PSub.of_eq ?_; simp; rfl)) ?_))
theorem alnum2_ok (c : UInt8) : ACalls Tryd.prog 32 [cU8 c] (.pv (cB (alnum c))) := by
  refine ACalls.of_W (qs := [_]) [2] 9 Tryd.func32 (by kernel_rfl) rfl rfl rfl fun G => ?_
  apply W.init (by repeat (first | exact InitE.nil | apply InitE.c0 | apply InitE.c1 | apply InitE.c2 | apply InitE.c3 | apply InitE.c4 | apply InitE.c5 | apply InitE.c6 | apply InitE.c7 | apply InitE.c8 | apply InitE.c9 | apply InitE.c10 | apply InitE.c11))
  repeat' (first
    | apply RG.nil
    | apply Lex.nil
    | apply Then.n
    | apply Then.r
    | apply Then.x
    | apply InBlock.n
    | apply InBlock.r
    | apply InBlock.hit
    | (apply InBlock.miss; exact rfl)
    | apply W.seq
    | apply W.region
    | apply W.block
    | apply W.skip
    | apply W.ret
    | apply W.exit
    | ((first | apply U_ | (apply Ug_; exact rfl; exact rfl) | (apply Ugq_; exact rfl; exact rfl)); (first
    | (apply Q_move; (refine Ev.of rfl ?_; first | exact fun _ => ⟨⟩ | exact id | exact And.right | exact And.left | exact (·.1.2) | exact (·.1.1) | exact (·.1.1.1) | exact (·.1.1.2)))
    | (apply Q_assign; (refine Ev.of rfl ?_; first | exact fun _ => ⟨⟩ | exact id | exact And.right | exact And.left | exact (·.1.2) | exact (·.1.1) | exact (·.1.1.1) | exact (·.1.1.2)))
    | (apply Q_or; (refine Ev.of rfl ?_; first | exact fun _ => ⟨⟩ | exact id | exact And.right | exact And.left | exact (·.1.2) | exact (·.1.1) | exact (·.1.1.1) | exact (·.1.1.2)); (refine Ev.of rfl ?_; first | exact fun _ => ⟨⟩ | exact id | exact And.right | exact And.left | exact (·.1.2) | exact (·.1.1) | exact (·.1.1.1) | exact (·.1.1.2)))
    | (apply Q_and; (refine Ev.of rfl ?_; first | exact fun _ => ⟨⟩ | exact id | exact And.right | exact And.left | exact (·.1.2) | exact (·.1.1) | exact (·.1.1.1) | exact (·.1.1.2)); (refine Ev.of rfl ?_; first | exact fun _ => ⟨⟩ | exact id | exact And.right | exact And.left | exact (·.1.2) | exact (·.1.1) | exact (·.1.1.1) | exact (·.1.1.2)))
    | (apply Q_call (letter_ok c); (repeat (first | exact EvL.nil | refine EvL.cons (by refine Ev.of rfl ?_; first | exact fun _ => ⟨⟩ | exact id | exact And.right | exact And.left | exact (·.1.2) | exact (·.1.1) | exact (·.1.1.1) | exact (·.1.1.2)) rfl (by first | exact PSub.rfl' | exact PSub.nil' | (refine PSub.of_eq ?_; simp only [List.map_append, List.map_cons, List.map_nil, List.nil_append]; rfl)) ?_)); exact rfl)
    | (apply Q_call (digit_ok c); (repeat (first | exact EvL.nil | refine EvL.cons (by refine Ev.of rfl ?_; first | exact fun _ => ⟨⟩ | exact id | exact And.right | exact And.left | exact (·.1.2) | exact (·.1.1) | exact (·.1.1.1) | exact (·.1.1.2)) rfl (by first | exact PSub.rfl' | exact PSub.nil' | (refine PSub.of_eq ?_; simp only [List.map_append, List.map_cons, List.map_nil, List.nil_append]; rfl)) ?_)); exact rfl)); exact rfl)
    | (apply RG.gT; exact rfl; exact rfl; (first | assumption | decide))
    | (apply RG.gF; exact rfl; exact rfl; (first | assumption | decide); exact rfl)
    | (refine W.cond (by refine Ev.of rfl ?_; first | exact fun _ => ⟨⟩ | exact id | exact And.right | exact And.left | exact (·.1.2) | exact (·.1.1) | exact (·.1.1.1) | exact (·.1.1.2)) (fun hb => ?_) (fun hb => ?_) <;> (try simp at hb) <;> (try (exfalso; omega))))
  exact Fin.ret (by repeat (first | exact ResL.nil | refine ResL.cons rfl rfl (by first | exact PSub.rfl' | exact PSub.nil' | (refine PSub.of_eq ?_; simp; done) | (refine PSub.of_eq ?_; simp only [List.map_append, List.map_cons, List.map_nil]; rfl) | (refine PSub.of_eq ?_; simp; rfl)) ?_))
theorem tw_at {s : Str} {p : UInt8 → Bool} : ∀ {k : Nat}, (∀ j, j < k → p (nth s j) = true) → k ≤ s.length → (k = s.length ∨ p (nth s k) = false) → (s.takeWhile p).length = k := by
  induction s with
  | nil => intro k _ h _; simp at h; simp [h]
  | cons c s ih =>
    intro k h1 h2 h3
    cases k with
    | zero =>
      rcases h3 with h3 | h3
      · simp at h3
      · have : p c = false := by simpa [nth, List.getD] using h3
        simp [List.takeWhile_cons, this]
    | succ k =>
      have hc : p c = true := by simpa [nth, List.getD] using h1 0 (by omega)
      have := ih (k := k) (fun j hj => by have := h1 (j + 1) (by omega); simpa [nth, List.getD] using this) (by simpa using h2) (by
        rcases h3 with h3 | h3
        · left; simpa using h3
        · right; simpa [nth, List.getD] using h3)
      simp [List.takeWhile_cons, hc, this]
theorem mem_tw {p : UInt8 → Bool} : ∀ {s : Str} {x : UInt8}, x ∈ s.takeWhile p → p x = true
  | c :: s, x, h => by
    rw [List.takeWhile_cons] at h
    split at h
    · rcases List.mem_cons.1 h with rfl | h
      · assumption
      · exact mem_tw h
    · cases h
theorem tw_all {s : Str} {p : UInt8 → Bool} : decide (((s.takeWhile p).length : Int) = s.length) = s.all p := by
  rw [Bool.eq_iff_iff, decide_eq_true_iff]
  constructor
  · intro h
    have h' : (s.takeWhile p).length = s.length := by omega
    have e : s.takeWhile p = s := by
      have := List.takeWhile_prefix (p := p) (l := s)
      exact this.eq_of_length h'
    rw [List.all_eq_true]
    intro x hx
    rw [← e] at hx
    exact mem_tw hx
  · intro h
    rw [tw_full h]

theorem span_ok (s : Str) (f : Nat) (p : UInt8 → Bool) (hl : s.length ≤ 9223372036854775807) (hf : FnOK Tryd.prog f) (hp : ∀ c : UInt8, ACalls Tryd.prog f [cU8 c] (.pv (cB (p c)))) : ACalls Tryd.prog 22 [cS s, .one (.fn f [])] (.pv (cI (s.takeWhile p).length)) := by
  refine ACalls.of_W (qs := [cI (s.takeWhile p).length]) [4] 20 Tryd.func22 (by kernel_rfl) rfl rfl rfl fun G => ?_
  apply W.init (by repeat (first | exact InitE.nil | apply InitE.c0 | apply InitE.c1 | apply InitE.c2 | apply InitE.c3 | apply InitE.c4 | apply InitE.c5 | apply InitE.c6 | apply InitE.c7 | apply InitE.c8 | apply InitE.c9 | apply InitE.c10 | apply InitE.c11))
  repeat' (first
    | apply RG.nil
    | apply Lex.nil
    | apply Then.n
    | apply Then.r
    | apply Then.x
    | apply InBlock.n
    | apply InBlock.r
    | apply InBlock.hit
    | (apply InBlock.miss; exact rfl)
    | apply W.seq
    | apply W.region
    | apply W.block
    | apply W.skip
    | apply W.ret
    | apply W.exit
    | ((first | apply U_ | (apply Ug_; exact rfl; exact rfl) | (apply Ugq_; exact rfl; exact rfl)); (first
    | (apply Q_move; (refine Ev.of rfl ?_; first | exact fun _ => ⟨⟩ | exact id | exact And.right | exact And.left | exact (·.1.2) | exact (·.1.1) | exact (·.1.1.1) | exact (·.1.1.2)))
    | (apply Q_assign; (refine Ev.of rfl ?_; first | exact fun _ => ⟨⟩ | exact id | exact And.right | exact And.left | exact (·.1.2) | exact (·.1.1) | exact (·.1.1.1) | exact (·.1.1.2)))
    | (apply Q_add; (refine Ev.of rfl ?_; first | exact fun _ => ⟨⟩ | exact id | exact And.right | exact And.left | exact (·.1.2) | exact (·.1.1) | exact (·.1.1.1) | exact (·.1.1.2)); (refine Ev.of rfl ?_; first | exact fun _ => ⟨⟩ | exact id | exact And.right | exact And.left | exact (·.1.2) | exact (·.1.1) | exact (·.1.1.1) | exact (·.1.1.2)); (first | omega | (constructor <;> omega)))
    | (apply Q_add8; (refine Ev.of rfl ?_; first | exact fun _ => ⟨⟩ | exact id | exact And.right | exact And.left | exact (·.1.2) | exact (·.1.1) | exact (·.1.1.1) | exact (·.1.1.2)); (refine Ev.of rfl ?_; first | exact fun _ => ⟨⟩ | exact id | exact And.right | exact And.left | exact (·.1.2) | exact (·.1.1) | exact (·.1.1.1) | exact (·.1.1.2)); (first | omega | (constructor <;> omega)))
    | (apply Q_bin; (refine Ev.of rfl ?_; first | exact fun _ => ⟨⟩ | exact id | exact And.right | exact And.left | exact (·.1.2) | exact (·.1.1) | exact (·.1.1.1) | exact (·.1.1.2)); (refine Ev.of rfl ?_; first | exact fun _ => ⟨⟩ | exact id | exact And.right | exact And.left | exact (·.1.2) | exact (·.1.1) | exact (·.1.1.1) | exact (·.1.1.2)); exact rfl)
    | (apply Q_or; (refine Ev.of rfl ?_; first | exact fun _ => ⟨⟩ | exact id | exact And.right | exact And.left | exact (·.1.2) | exact (·.1.1) | exact (·.1.1.1) | exact (·.1.1.2)); (refine Ev.of rfl ?_; first | exact fun _ => ⟨⟩ | exact id | exact And.right | exact And.left | exact (·.1.2) | exact (·.1.1) | exact (·.1.1.1) | exact (·.1.1.2)))
    | (apply Q_and; (refine Ev.of rfl ?_; first | exact fun _ => ⟨⟩ | exact id | exact And.right | exact And.left | exact (·.1.2) | exact (·.1.1) | exact (·.1.1.1) | exact (·.1.1.2)); (refine Ev.of rfl ?_; first | exact fun _ => ⟨⟩ | exact id | exact And.right | exact And.left | exact (·.1.2) | exact (·.1.1) | exact (·.1.1.1) | exact (·.1.1.2)))
    | (apply Q_lenm TYok; (refine Ev.of rfl ?_; first | exact fun _ => ⟨⟩ | exact id | exact And.right | exact And.left | exact (·.1.2) | exact (·.1.1) | exact (·.1.1.1) | exact (·.1.1.2)); exact rfl; exact rfl)
    | (apply Q_lend TYok; (refine Ev.of rfl ?_; first | exact fun _ => ⟨⟩ | exact id | exact And.right | exact And.left | exact (·.1.2) | exact (·.1.1) | exact (·.1.1.1) | exact (·.1.1.2)); exact rfl; exact rfl)
    | (apply Q_lenom TYok; (refine Ev.of rfl ?_; first | exact fun _ => ⟨⟩ | exact id | exact And.right | exact And.left | exact (·.1.2) | exact (·.1.1) | exact (·.1.1.1) | exact (·.1.1.2)); exact rfl; exact rfl; exact rfl)
    | (apply Q_len TYok; (refine Ev.of rfl ?_; first | exact fun _ => ⟨⟩ | exact id | exact And.right | exact And.left | exact (·.1.2) | exact (·.1.1) | exact (·.1.1.1) | exact (·.1.1.2)); exact rfl; exact rfl; exact rfl)
    | (apply Q_len0 TYok; (refine Ev.of rfl ?_; first | exact fun _ => ⟨⟩ | exact id | exact And.right | exact And.left | exact (·.1.2) | exact (·.1.1) | exact (·.1.1.1) | exact (·.1.1.2)); exact rfl; exact rfl)
    | (apply Q_lens TYok; (refine Ev.of rfl ?_; first | exact fun _ => ⟨⟩ | exact id | exact And.right | exact And.left | exact (·.1.2) | exact (·.1.1) | exact (·.1.1.1) | exact (·.1.1.2)); exact rfl; exact rfl)
    | (apply Q_binS; (refine Ev.of rfl ?_; first | exact fun _ => ⟨⟩ | exact id | exact And.right | exact And.left | exact (·.1.2) | exact (·.1.1) | exact (·.1.1.1) | exact (·.1.1.2)); (refine Ev.of rfl ?_; first | exact fun _ => ⟨⟩ | exact id | exact And.right | exact And.left | exact (·.1.2) | exact (·.1.1) | exact (·.1.1.1) | exact (·.1.1.2)); exact rfl)
    | (apply Q_indexs TYok; (refine Ev.of rfl ?_; first | exact fun _ => ⟨⟩ | exact id | exact And.right | exact And.left | exact (·.1.2) | exact (·.1.1) | exact (·.1.1.1) | exact (·.1.1.2)); (refine Ev.of rfl ?_; first | exact fun _ => ⟨⟩ | exact id | exact And.right | exact And.left | exact (·.1.2) | exact (·.1.1) | exact (·.1.1.1) | exact (·.1.1.2)); exact rfl; exact rfl; (intro hg; exact strAt (by first | omega | (simp at hg; omega) | (simp at hg; done))))
    | (apply Q_cat; (refine Ev.of rfl ?_; first | exact fun _ => ⟨⟩ | exact id | exact And.right | exact And.left | exact (·.1.2) | exact (·.1.1) | exact (·.1.1.1) | exact (·.1.1.2)); (refine Ev.of rfl ?_; first | exact fun _ => ⟨⟩ | exact id | exact And.right | exact And.left | exact (·.1.2) | exact (·.1.1) | exact (·.1.1.1) | exact (·.1.1.2)); (intro hg; first | omega | (simp; omega) | (simp at hg ⊢; omega)))); exact rfl)
    | (apply RG.gT; exact rfl; exact rfl; (first | assumption | decide))
    | (apply RG.gF; exact rfl; exact rfl; (first | assumption | decide); exact rfl)
    | (refine W.cond (by refine Ev.of rfl ?_; first | exact fun _ => ⟨⟩ | exact id | exact And.right | exact And.left | exact (·.1.2) | exact (·.1.1) | exact (·.1.1.1) | exact (·.1.1.2)) (fun hb => ?_) (fun hb => ?_) <;> (try simp at hb) <;> (try (exfalso; omega))))
  apply W.loopP (σ := Nat) 20 [0, 1] (fun k => k ≤ s.length ∧ ∀ j, j < k → p (nth s j) = true) (fun k => [(5, vI k)]) (fun _ => []) (fun k => s.length - k) (0)
  case hp => repeat (first | exact Pick.nil | apply Pick.cons rfl)
  case h0 =>
    refine ⟨by simp, ?_⟩
    refine Le.mkR rfl rfl ?_ ?_ ?_ rfl
    · repeat (first | exact SubR.nil | apply SubR.p rfl (by first | rfl | (simp; done) | (congr 3; omega) | (congr 3; simp; omega)) | apply SubR.s rfl rfl rfl | apply SubR.a rfl rfl rfl | apply SubR.t rfl rfl | apply SubR.m rfl rfl rfl | apply SubR.i rfl rfl rfl rfl rfl)
    · repeat (first | exact SubR.nil | apply SubR.p rfl (by first | rfl | (simp; done) | (congr 3; omega) | (congr 3; simp; omega)) | apply SubR.s rfl rfl rfl | apply SubR.a rfl rfl rfl | apply SubR.t rfl rfl | apply SubR.m rfl rfl rfl | apply SubR.i rfl rfl rfl rfl rfl)
    · repeat (first | exact SubBR.nil | apply SubBR.cons rfl (by first | rfl | (simp only [List.map_append, List.map_replicate, List.map_cons, List.map_nil]; rfl) | (simp only [List.map_append, List.map_cons, List.map_nil, List.append_assoc, List.cons_append, List.nil_append]; rfl) | (simp; done)))
  case round =>
    rintro k ⟨h1, h2⟩
    apply W.norm (by repeat (first | exact App.nil | apply App.cons))
    repeat' (first
      | apply RG.nil
      | apply Lex.nil
      | apply Then.n
      | apply Then.r
      | apply Then.x
      | apply InBlock.n
      | apply InBlock.r
      | apply InBlock.hit
      | (apply InBlock.miss; exact rfl)
      | apply W.seq
      | apply W.region
      | apply W.block
      | apply W.skip
      | apply W.ret
      | apply W.exit
      | ((first | apply U_ | (apply Ug_; exact rfl; exact rfl) | (apply Ugq_; exact rfl; exact rfl)); (first
    | (apply Q_move; (refine Ev.of rfl ?_; first | exact fun _ => ⟨⟩ | exact id | exact And.right | exact And.left | exact (·.1.2) | exact (·.1.1) | exact (·.1.1.1) | exact (·.1.1.2)))
    | (apply Q_assign; (refine Ev.of rfl ?_; first | exact fun _ => ⟨⟩ | exact id | exact And.right | exact And.left | exact (·.1.2) | exact (·.1.1) | exact (·.1.1.1) | exact (·.1.1.2)))
    | (apply Q_add; (refine Ev.of rfl ?_; first | exact fun _ => ⟨⟩ | exact id | exact And.right | exact And.left | exact (·.1.2) | exact (·.1.1) | exact (·.1.1.1) | exact (·.1.1.2)); (refine Ev.of rfl ?_; first | exact fun _ => ⟨⟩ | exact id | exact And.right | exact And.left | exact (·.1.2) | exact (·.1.1) | exact (·.1.1.1) | exact (·.1.1.2)); (first | omega | (constructor <;> omega)))
    | (apply Q_add8; (refine Ev.of rfl ?_; first | exact fun _ => ⟨⟩ | exact id | exact And.right | exact And.left | exact (·.1.2) | exact (·.1.1) | exact (·.1.1.1) | exact (·.1.1.2)); (refine Ev.of rfl ?_; first | exact fun _ => ⟨⟩ | exact id | exact And.right | exact And.left | exact (·.1.2) | exact (·.1.1) | exact (·.1.1.1) | exact (·.1.1.2)); (first | omega | (constructor <;> omega)))
    | (apply Q_bin; (refine Ev.of rfl ?_; first | exact fun _ => ⟨⟩ | exact id | exact And.right | exact And.left | exact (·.1.2) | exact (·.1.1) | exact (·.1.1.1) | exact (·.1.1.2)); (refine Ev.of rfl ?_; first | exact fun _ => ⟨⟩ | exact id | exact And.right | exact And.left | exact (·.1.2) | exact (·.1.1) | exact (·.1.1.1) | exact (·.1.1.2)); exact rfl)
    | (apply Q_or; (refine Ev.of rfl ?_; first | exact fun _ => ⟨⟩ | exact id | exact And.right | exact And.left | exact (·.1.2) | exact (·.1.1) | exact (·.1.1.1) | exact (·.1.1.2)); (refine Ev.of rfl ?_; first | exact fun _ => ⟨⟩ | exact id | exact And.right | exact And.left | exact (·.1.2) | exact (·.1.1) | exact (·.1.1.1) | exact (·.1.1.2)))
    | (apply Q_and; (refine Ev.of rfl ?_; first | exact fun _ => ⟨⟩ | exact id | exact And.right | exact And.left | exact (·.1.2) | exact (·.1.1) | exact (·.1.1.1) | exact (·.1.1.2)); (refine Ev.of rfl ?_; first | exact fun _ => ⟨⟩ | exact id | exact And.right | exact And.left | exact (·.1.2) | exact (·.1.1) | exact (·.1.1.1) | exact (·.1.1.2)))
    | (apply Q_lenm TYok; (refine Ev.of rfl ?_; first | exact fun _ => ⟨⟩ | exact id | exact And.right | exact And.left | exact (·.1.2) | exact (·.1.1) | exact (·.1.1.1) | exact (·.1.1.2)); exact rfl; exact rfl)
    | (apply Q_lend TYok; (refine Ev.of rfl ?_; first | exact fun _ => ⟨⟩ | exact id | exact And.right | exact And.left | exact (·.1.2) | exact (·.1.1) | exact (·.1.1.1) | exact (·.1.1.2)); exact rfl; exact rfl)
    | (apply Q_lenom TYok; (refine Ev.of rfl ?_; first | exact fun _ => ⟨⟩ | exact id | exact And.right | exact And.left | exact (·.1.2) | exact (·.1.1) | exact (·.1.1.1) | exact (·.1.1.2)); exact rfl; exact rfl; exact rfl)
    | (apply Q_len TYok; (refine Ev.of rfl ?_; first | exact fun _ => ⟨⟩ | exact id | exact And.right | exact And.left | exact (·.1.2) | exact (·.1.1) | exact (·.1.1.1) | exact (·.1.1.2)); exact rfl; exact rfl; exact rfl)
    | (apply Q_len0 TYok; (refine Ev.of rfl ?_; first | exact fun _ => ⟨⟩ | exact id | exact And.right | exact And.left | exact (·.1.2) | exact (·.1.1) | exact (·.1.1.1) | exact (·.1.1.2)); exact rfl; exact rfl)
    | (apply Q_lens TYok; (refine Ev.of rfl ?_; first | exact fun _ => ⟨⟩ | exact id | exact And.right | exact And.left | exact (·.1.2) | exact (·.1.1) | exact (·.1.1.1) | exact (·.1.1.2)); exact rfl; exact rfl)
    | (apply Q_binS; (refine Ev.of rfl ?_; first | exact fun _ => ⟨⟩ | exact id | exact And.right | exact And.left | exact (·.1.2) | exact (·.1.1) | exact (·.1.1.1) | exact (·.1.1.2)); (refine Ev.of rfl ?_; first | exact fun _ => ⟨⟩ | exact id | exact And.right | exact And.left | exact (·.1.2) | exact (·.1.1) | exact (·.1.1.1) | exact (·.1.1.2)); exact rfl)
    | (apply Q_indexs TYok; (refine Ev.of rfl ?_; first | exact fun _ => ⟨⟩ | exact id | exact And.right | exact And.left | exact (·.1.2) | exact (·.1.1) | exact (·.1.1.1) | exact (·.1.1.2)); (refine Ev.of rfl ?_; first | exact fun _ => ⟨⟩ | exact id | exact And.right | exact And.left | exact (·.1.2) | exact (·.1.1) | exact (·.1.1.1) | exact (·.1.1.2)); exact rfl; exact rfl; (intro hg; exact strAt (by first | omega | (simp at hg; omega) | (simp at hg; done))))
    | (apply Q_cat; (refine Ev.of rfl ?_; first | exact fun _ => ⟨⟩ | exact id | exact And.right | exact And.left | exact (·.1.2) | exact (·.1.1) | exact (·.1.1.1) | exact (·.1.1.2)); (refine Ev.of rfl ?_; first | exact fun _ => ⟨⟩ | exact id | exact And.right | exact And.left | exact (·.1.2) | exact (·.1.1) | exact (·.1.1.1) | exact (·.1.1.2)); (intro hg; first | omega | (simp; omega) | (simp at hg ⊢; omega)))
    | (apply Q_callvA (hp (nth s k)); (refine Ev.of rfl ?_; first | exact fun _ => ⟨⟩ | exact id | exact And.right | exact And.left | exact (·.1.2) | exact (·.1.1) | exact (·.1.1.1) | exact (·.1.1.2)); focus ((repeat (first | exact EvA.nil rfl | refine EvA.cons (by refine Ev.of rfl ?_; first | exact fun _ => ⟨⟩ | exact id | exact And.right | exact And.left | exact (·.1.2) | exact (·.1.1) | exact (·.1.1.1) | exact (·.1.1.2)) (by first | exact PSub.rfl' | exact PSub.nil' | (refine PSub.of_eq ?_; simp only [List.map_append, List.map_cons, List.map_nil, List.nil_append]; rfl)) ?_)); done))); exact rfl)
      | (apply RG.gT; exact rfl; exact rfl; (first | assumption | decide))
      | (apply RG.gF; exact rfl; exact rfl; (first | assumption | decide); exact rfl)
      | (refine W.cond (by refine Ev.of rfl ?_; first | exact fun _ => ⟨⟩ | exact id | exact And.right | exact And.left | exact (·.1.2) | exact (·.1.1) | exact (·.1.1.1) | exact (·.1.1.2)) (fun hb => ?_) (fun hb => ?_) <;> (try simp at hb) <;> (try (exfalso; omega))))
    · refine ⟨k + 1, ⟨by omega, fun j hj => ?_⟩, ?_, ?_⟩
      · by_cases e : j = k
        · subst e; exact hb.2
        · exact h2 j (by omega)
      · refine Le.mkR rfl rfl ?_ ?_ ?_ rfl
        · repeat (first | exact SubR.nil | apply SubR.p rfl (by first | rfl | (simp; done) | (congr 3; omega) | (congr 3; simp; omega)) | apply SubR.s rfl rfl rfl | apply SubR.a rfl rfl rfl | apply SubR.t rfl rfl | apply SubR.m rfl rfl rfl | apply SubR.i rfl rfl rfl rfl rfl)
        · repeat (first | exact SubR.nil | apply SubR.p rfl (by first | rfl | (simp; done) | (congr 3; omega) | (congr 3; simp; omega)) | apply SubR.s rfl rfl rfl | apply SubR.a rfl rfl rfl | apply SubR.t rfl rfl | apply SubR.m rfl rfl rfl | apply SubR.i rfl rfl rfl rfl rfl)
        · repeat (first | exact SubBR.nil | apply SubBR.cons rfl (by first | rfl | (simp only [List.map_append, List.map_replicate, List.map_cons, List.map_nil]; rfl) | (simp only [List.map_append, List.map_cons, List.map_nil, List.append_assoc, List.cons_append, List.nil_append]; rfl) | (simp; done)))
      · (try simp only); omega
    · have e : (s.takeWhile p).length = k := tw_at h2 h1 (by
        by_cases hk : k = s.length
        · exact .inl hk
        · exact .inr (hb (by omega)))
      rw [e]
      exact Fin.ret (by repeat (first | exact ResL.nil | refine ResL.cons rfl rfl (by first | exact PSub.rfl' | exact PSub.nil' | (refine PSub.of_eq ?_; simp; done) | (refine PSub.of_eq ?_; simp only [List.map_append, List.map_cons, List.map_nil]; rfl) | (refine PSub.of_eq ?_; simp; rfl)) ?_))
theorem word_ok (s : Str) (hl : s.length ≤ 9223372036854775807) : ACalls Tryd.prog 16 [cS s] (.pv (cB (wordF s))) := by
  refine ACalls.of_W (qs := [cB (wordF s)]) [2] 21 Tryd.func16 (by kernel_rfl) rfl rfl rfl fun G => ?_
  apply W.init (by repeat (first | exact InitE.nil | apply InitE.c0 | apply InitE.c1 | apply InitE.c2 | apply InitE.c3 | apply InitE.c4 | apply InitE.c5 | apply InitE.c6 | apply InitE.c7 | apply InitE.c8 | apply InitE.c9 | apply InitE.c10 | apply InitE.c11))
  by_cases h0 : s = []
  · subst h0
    repeat' (first
      | apply RG.nil
      | apply Lex.nil
      | apply Then.n
      | apply Then.r
      | apply Then.x
      | apply InBlock.n
      | apply InBlock.r
      | apply InBlock.hit
      | (apply InBlock.miss; exact rfl)
      | apply W.seq
      | apply W.region
      | apply W.block
      | apply W.skip
      | apply W.ret
      | apply W.exit
      | ((first | apply U_ | (apply Ug_; exact rfl; exact rfl) | (apply Ugq_; exact rfl; exact rfl)); (first
    | (apply Q_move; (refine Ev.of rfl ?_; first | exact fun _ => ⟨⟩ | exact id | exact And.right | exact And.left | exact (·.1.2) | exact (·.1.1) | exact (·.1.1.1) | exact (·.1.1.2)))
    | (apply Q_assign; (refine Ev.of rfl ?_; first | exact fun _ => ⟨⟩ | exact id | exact And.right | exact And.left | exact (·.1.2) | exact (·.1.1) | exact (·.1.1.1) | exact (·.1.1.2)))
    | (apply Q_bin; (refine Ev.of rfl ?_; first | exact fun _ => ⟨⟩ | exact id | exact And.right | exact And.left | exact (·.1.2) | exact (·.1.1) | exact (·.1.1.1) | exact (·.1.1.2)); (refine Ev.of rfl ?_; first | exact fun _ => ⟨⟩ | exact id | exact And.right | exact And.left | exact (·.1.2) | exact (·.1.1) | exact (·.1.1.1) | exact (·.1.1.2)); exact rfl)
    | (apply Q_or; (refine Ev.of rfl ?_; first | exact fun _ => ⟨⟩ | exact id | exact And.right | exact And.left | exact (·.1.2) | exact (·.1.1) | exact (·.1.1.1) | exact (·.1.1.2)); (refine Ev.of rfl ?_; first | exact fun _ => ⟨⟩ | exact id | exact And.right | exact And.left | exact (·.1.2) | exact (·.1.1) | exact (·.1.1.1) | exact (·.1.1.2)))
    | (apply Q_and; (refine Ev.of rfl ?_; first | exact fun _ => ⟨⟩ | exact id | exact And.right | exact And.left | exact (·.1.2) | exact (·.1.1) | exact (·.1.1.1) | exact (·.1.1.2)); (refine Ev.of rfl ?_; first | exact fun _ => ⟨⟩ | exact id | exact And.right | exact And.left | exact (·.1.2) | exact (·.1.1) | exact (·.1.1.1) | exact (·.1.1.2)))
    | (apply Q_not; (refine Ev.of rfl ?_; first | exact fun _ => ⟨⟩ | exact id | exact And.right | exact And.left | exact (·.1.2) | exact (·.1.1) | exact (·.1.1.1) | exact (·.1.1.2)))
    | (apply Q_lenm TYok; (refine Ev.of rfl ?_; first | exact fun _ => ⟨⟩ | exact id | exact And.right | exact And.left | exact (·.1.2) | exact (·.1.1) | exact (·.1.1.1) | exact (·.1.1.2)); exact rfl; exact rfl)
    | (apply Q_lend TYok; (refine Ev.of rfl ?_; first | exact fun _ => ⟨⟩ | exact id | exact And.right | exact And.left | exact (·.1.2) | exact (·.1.1) | exact (·.1.1.1) | exact (·.1.1.2)); exact rfl; exact rfl)
    | (apply Q_lenom TYok; (refine Ev.of rfl ?_; first | exact fun _ => ⟨⟩ | exact id | exact And.right | exact And.left | exact (·.1.2) | exact (·.1.1) | exact (·.1.1.1) | exact (·.1.1.2)); exact rfl; exact rfl; exact rfl)
    | (apply Q_len TYok; (refine Ev.of rfl ?_; first | exact fun _ => ⟨⟩ | exact id | exact And.right | exact And.left | exact (·.1.2) | exact (·.1.1) | exact (·.1.1.1) | exact (·.1.1.2)); exact rfl; exact rfl; exact rfl)
    | (apply Q_len0 TYok; (refine Ev.of rfl ?_; first | exact fun _ => ⟨⟩ | exact id | exact And.right | exact And.left | exact (·.1.2) | exact (·.1.1) | exact (·.1.1.1) | exact (·.1.1.2)); exact rfl; exact rfl)
    | (apply Q_lens TYok; (refine Ev.of rfl ?_; first | exact fun _ => ⟨⟩ | exact id | exact And.right | exact And.left | exact (·.1.2) | exact (·.1.1) | exact (·.1.1.1) | exact (·.1.1.2)); exact rfl; exact rfl)
    | (apply Q_binS; (refine Ev.of rfl ?_; first | exact fun _ => ⟨⟩ | exact id | exact And.right | exact And.left | exact (·.1.2) | exact (·.1.1) | exact (·.1.1.1) | exact (·.1.1.2)); (refine Ev.of rfl ?_; first | exact fun _ => ⟨⟩ | exact id | exact And.right | exact And.left | exact (·.1.2) | exact (·.1.1) | exact (·.1.1.1) | exact (·.1.1.2)); exact rfl)
    | (apply Q_binB TYok; (refine Ev.of rfl ?_; first | exact fun _ => ⟨⟩ | exact id | exact And.right | exact And.left | exact (·.1.2) | exact (·.1.1) | exact (·.1.1.1) | exact (·.1.1.2)); (refine Ev.of rfl ?_; first | exact fun _ => ⟨⟩ | exact id | exact And.right | exact And.left | exact (·.1.2) | exact (·.1.1) | exact (·.1.1.1) | exact (·.1.1.2)); exact rfl; exact rfl; exact rfl)
    | (apply Q_indexs TYok; (refine Ev.of rfl ?_; first | exact fun _ => ⟨⟩ | exact id | exact And.right | exact And.left | exact (·.1.2) | exact (·.1.1) | exact (·.1.1.1) | exact (·.1.1.2)); (refine Ev.of rfl ?_; first | exact fun _ => ⟨⟩ | exact id | exact And.right | exact And.left | exact (·.1.2) | exact (·.1.1) | exact (·.1.1.1) | exact (·.1.1.2)); exact rfl; exact rfl; (intro hg; exact strAt (by first | omega | (simp at hg; omega) | (simp at hg; done))))
    | (apply Q_call (letter_ok 0); (repeat (first | exact EvL.nil | refine EvL.cons (by refine Ev.of rfl ?_; first | exact fun _ => ⟨⟩ | exact id | exact And.right | exact And.left | exact (·.1.2) | exact (·.1.1) | exact (·.1.1.1) | exact (·.1.1.2)) rfl (by first | exact PSub.rfl' | exact PSub.nil' | (refine PSub.of_eq ?_; simp only [List.map_append, List.map_cons, List.map_nil, List.nil_append]; rfl)) ?_)); exact rfl)
    | (apply Q_call (letter_ok (nth [] 0)); (repeat (first | exact EvL.nil | refine EvL.cons (by refine Ev.of rfl ?_; first | exact fun _ => ⟨⟩ | exact id | exact And.right | exact And.left | exact (·.1.2) | exact (·.1.1) | exact (·.1.1.1) | exact (·.1.1.2)) rfl (by first | exact PSub.rfl' | exact PSub.nil' | (refine PSub.of_eq ?_; simp only [List.map_append, List.map_cons, List.map_nil, List.nil_append]; rfl)) ?_)); exact rfl)
    | (apply Q_call (span_ok [] 29 alnum hl (alnum1_ok 0).fn alnum1_ok); (repeat (first | exact EvL.nil | refine EvL.cons (by refine Ev.of rfl ?_; first | exact fun _ => ⟨⟩ | exact id | exact And.right | exact And.left | exact (·.1.2) | exact (·.1.1) | exact (·.1.1.1) | exact (·.1.1.2)) rfl (by first | exact PSub.rfl' | exact PSub.nil' | (refine PSub.of_eq ?_; simp only [List.map_append, List.map_cons, List.map_nil, List.nil_append]; rfl)) ?_)); exact rfl)); exact rfl)
      | (apply S_isnil TYok; exact rfl; exact rfl; exact rfl; (refine Ev.of rfl ?_; first | exact fun _ => ⟨⟩ | exact id | exact And.right | exact And.left | exact (·.1.2) | exact (·.1.1) | exact (·.1.1.1) | exact (·.1.1.2)); intro bn hnil)
      | (apply RG.gT; exact rfl; exact rfl; (first | assumption | decide))
      | (apply RG.gF; exact rfl; exact rfl; (first | assumption | decide); exact rfl)
      | (refine W.cond (by refine Ev.of rfl ?_; first | exact fun _ => ⟨⟩ | exact id | exact And.right | exact And.left | exact (·.1.2) | exact (·.1.1) | exact (·.1.1.1) | exact (·.1.1.2)) (fun hb => ?_) (fun hb => ?_) <;> (try simp at hb) <;> (try (exfalso; omega))))
    have e : wordF [] = false := by decide
    rw [e]
    exact Fin.ret (by repeat (first | exact ResL.nil | refine ResL.cons rfl rfl (by first | exact PSub.rfl' | exact PSub.nil' | (refine PSub.of_eq ?_; simp; done) | (refine PSub.of_eq ?_; simp only [List.map_append, List.map_cons, List.map_nil]; rfl) | (refine PSub.of_eq ?_; simp; rfl)) ?_))
  have hpos : 0 < s.length := List.length_pos_iff.2 h0
  repeat' (first
    | apply RG.nil
    | apply Lex.nil
    | apply Then.n
    | apply Then.r
    | apply Then.x
    | apply InBlock.n
    | apply InBlock.r
    | apply InBlock.hit
    | (apply InBlock.miss; exact rfl)
    | apply W.seq
    | apply W.region
    | apply W.block
    | apply W.skip
    | apply W.ret
    | apply W.exit
    | ((first | apply U_ | (apply Ug_; exact rfl; exact rfl) | (apply Ugq_; exact rfl; exact rfl)); (first
    | (apply Q_move; (refine Ev.of rfl ?_; first | exact fun _ => ⟨⟩ | exact id | exact And.right | exact And.left | exact (·.1.2) | exact (·.1.1) | exact (·.1.1.1) | exact (·.1.1.2)))
    | (apply Q_assign; (refine Ev.of rfl ?_; first | exact fun _ => ⟨⟩ | exact id | exact And.right | exact And.left | exact (·.1.2) | exact (·.1.1) | exact (·.1.1.1) | exact (·.1.1.2)))
    | (apply Q_bin; (refine Ev.of rfl ?_; first | exact fun _ => ⟨⟩ | exact id | exact And.right | exact And.left | exact (·.1.2) | exact (·.1.1) | exact (·.1.1.1) | exact (·.1.1.2)); (refine Ev.of rfl ?_; first | exact fun _ => ⟨⟩ | exact id | exact And.right | exact And.left | exact (·.1.2) | exact (·.1.1) | exact (·.1.1.1) | exact (·.1.1.2)); exact rfl)
    | (apply Q_or; (refine Ev.of rfl ?_; first | exact fun _ => ⟨⟩ | exact id | exact And.right | exact And.left | exact (·.1.2) | exact (·.1.1) | exact (·.1.1.1) | exact (·.1.1.2)); (refine Ev.of rfl ?_; first | exact fun _ => ⟨⟩ | exact id | exact And.right | exact And.left | exact (·.1.2) | exact (·.1.1) | exact (·.1.1.1) | exact (·.1.1.2)))
    | (apply Q_and; (refine Ev.of rfl ?_; first | exact fun _ => ⟨⟩ | exact id | exact And.right | exact And.left | exact (·.1.2) | exact (·.1.1) | exact (·.1.1.1) | exact (·.1.1.2)); (refine Ev.of rfl ?_; first | exact fun _ => ⟨⟩ | exact id | exact And.right | exact And.left | exact (·.1.2) | exact (·.1.1) | exact (·.1.1.1) | exact (·.1.1.2)))
    | (apply Q_not; (refine Ev.of rfl ?_; first | exact fun _ => ⟨⟩ | exact id | exact And.right | exact And.left | exact (·.1.2) | exact (·.1.1) | exact (·.1.1.1) | exact (·.1.1.2)))
    | (apply Q_lenm TYok; (refine Ev.of rfl ?_; first | exact fun _ => ⟨⟩ | exact id | exact And.right | exact And.left | exact (·.1.2) | exact (·.1.1) | exact (·.1.1.1) | exact (·.1.1.2)); exact rfl; exact rfl)
    | (apply Q_lend TYok; (refine Ev.of rfl ?_; first | exact fun _ => ⟨⟩ | exact id | exact And.right | exact And.left | exact (·.1.2) | exact (·.1.1) | exact (·.1.1.1) | exact (·.1.1.2)); exact rfl; exact rfl)
    | (apply Q_lenom TYok; (refine Ev.of rfl ?_; first | exact fun _ => ⟨⟩ | exact id | exact And.right | exact And.left | exact (·.1.2) | exact (·.1.1) | exact (·.1.1.1) | exact (·.1.1.2)); exact rfl; exact rfl; exact rfl)
    | (apply Q_len TYok; (refine Ev.of rfl ?_; first | exact fun _ => ⟨⟩ | exact id | exact And.right | exact And.left | exact (·.1.2) | exact (·.1.1) | exact (·.1.1.1) | exact (·.1.1.2)); exact rfl; exact rfl; exact rfl)
    | (apply Q_len0 TYok; (refine Ev.of rfl ?_; first | exact fun _ => ⟨⟩ | exact id | exact And.right | exact And.left | exact (·.1.2) | exact (·.1.1) | exact (·.1.1.1) | exact (·.1.1.2)); exact rfl; exact rfl)
    | (apply Q_lens TYok; (refine Ev.of rfl ?_; first | exact fun _ => ⟨⟩ | exact id | exact And.right | exact And.left | exact (·.1.2) | exact (·.1.1) | exact (·.1.1.1) | exact (·.1.1.2)); exact rfl; exact rfl)
    | (apply Q_binS; (refine Ev.of rfl ?_; first | exact fun _ => ⟨⟩ | exact id | exact And.right | exact And.left | exact (·.1.2) | exact (·.1.1) | exact (·.1.1.1) | exact (·.1.1.2)); (refine Ev.of rfl ?_; first | exact fun _ => ⟨⟩ | exact id | exact And.right | exact And.left | exact (·.1.2) | exact (·.1.1) | exact (·.1.1.1) | exact (·.1.1.2)); exact rfl)
    | (apply Q_binB TYok; (refine Ev.of rfl ?_; first | exact fun _ => ⟨⟩ | exact id | exact And.right | exact And.left | exact (·.1.2) | exact (·.1.1) | exact (·.1.1.1) | exact (·.1.1.2)); (refine Ev.of rfl ?_; first | exact fun _ => ⟨⟩ | exact id | exact And.right | exact And.left | exact (·.1.2) | exact (·.1.1) | exact (·.1.1.1) | exact (·.1.1.2)); exact rfl; exact rfl; exact rfl)
    | (apply Q_indexs TYok; (refine Ev.of rfl ?_; first | exact fun _ => ⟨⟩ | exact id | exact And.right | exact And.left | exact (·.1.2) | exact (·.1.1) | exact (·.1.1.1) | exact (·.1.1.2)); (refine Ev.of rfl ?_; first | exact fun _ => ⟨⟩ | exact id | exact And.right | exact And.left | exact (·.1.2) | exact (·.1.1) | exact (·.1.1.1) | exact (·.1.1.2)); exact rfl; exact rfl; (intro hg; exact strAt (by first | omega | (simp at hg; omega) | (simp at hg; done))))
    | (apply Q_call (letter_ok (nth s 0)); (repeat (first | exact EvL.nil | refine EvL.cons (by refine Ev.of rfl ?_; first | exact fun _ => ⟨⟩ | exact id | exact And.right | exact And.left | exact (·.1.2) | exact (·.1.1) | exact (·.1.1.1) | exact (·.1.1.2)) rfl (by first | exact PSub.rfl' | exact PSub.nil' | (refine PSub.of_eq ?_; simp only [List.map_append, List.map_cons, List.map_nil, List.nil_append]; rfl)) ?_)); exact rfl)
    | (apply Q_call (span_ok s 29 alnum hl (alnum1_ok 0).fn alnum1_ok); (repeat (first | exact EvL.nil | refine EvL.cons (by refine Ev.of rfl ?_; first | exact fun _ => ⟨⟩ | exact id | exact And.right | exact And.left | exact (·.1.2) | exact (·.1.1) | exact (·.1.1.1) | exact (·.1.1.2)) rfl (by first | exact PSub.rfl' | exact PSub.nil' | (refine PSub.of_eq ?_; simp only [List.map_append, List.map_cons, List.map_nil, List.nil_append]; rfl)) ?_)); exact rfl)); exact rfl)
    | (apply S_isnil TYok; exact rfl; exact rfl; exact rfl; (refine Ev.of rfl ?_; first | exact fun _ => ⟨⟩ | exact id | exact And.right | exact And.left | exact (·.1.2) | exact (·.1.1) | exact (·.1.1.1) | exact (·.1.1.2)); intro bn hnil)
    | (apply RG.gT; exact rfl; exact rfl; (first | assumption | decide))
    | (apply RG.gF; exact rfl; exact rfl; (first | assumption | decide); exact rfl)
    | (refine W.cond (by refine Ev.of rfl ?_; first | exact fun _ => ⟨⟩ | exact id | exact And.right | exact And.left | exact (·.1.2) | exact (·.1.1) | exact (·.1.1.1) | exact (·.1.1.2)) (fun hb => ?_) (fun hb => ?_) <;> (try simp at hb) <;> (try (exfalso; omega))))
  · have e : wordF s = false := by
      rcases hb with (h | h) | h
      · exact absurd h h0
      · simp [wordF, byt_nth, h]
      · simp [wordF, show ¬ (s.length ≤ 20) by omega]
    rw [e]
    exact Fin.ret (by repeat (first | exact ResL.nil | refine ResL.cons rfl rfl (by first | exact PSub.rfl' | exact PSub.nil' | (refine PSub.of_eq ?_; simp; done) | (refine PSub.of_eq ?_; simp only [List.map_append, List.map_cons, List.map_nil]; rfl) | (refine PSub.of_eq ?_; simp; rfl)) ?_))
  · have e : wordF s = decide (((s.takeWhile alnum).length : Int) = s.length) := by
      rw [tw_all]
      simp [wordF, byt_nth, hb.1.1, hb.1.2, show s.length ≤ 20 by omega]
    rw [e]
    exact Fin.ret (by repeat (first | exact ResL.nil | refine ResL.cons rfl rfl (by first | exact PSub.rfl' | exact PSub.nil' | (refine PSub.of_eq ?_; simp; done) | (refine PSub.of_eq ?_; simp only [List.map_append, List.map_cons, List.map_nil]; rfl) | (refine PSub.of_eq ?_; simp; rfl)) ?_))
theorem drop_byt {s : Str} {k : Nat} (h : k < s.length) : s.drop k = nth s k :: s.drop (k + 1) := by
  rw [List.drop_eq_getElem_cons h]
  congr 1
  unfold nth
  simp [List.getD, h]
theorem all_drop {s : Str} {p : UInt8 → Bool} {k : Nat} (h : k < s.length) : (s.drop k).all p = (p (nth s k) && (s.drop (k + 1)).all p) := by
  rw [drop_byt h]; simp
theorem rword_ok (s : Str) (hl : s.length ≤ 9223372036854775807) : ACalls Tryd.prog 17 [cS s] (.pv (cB (wordF s))) := by
  refine ACalls.of_W (qs := [cB (wordF s)]) [2] 36 Tryd.func17 (by kernel_rfl) rfl rfl rfl fun G => ?_
  apply W.init (by repeat (first | exact InitE.nil | apply InitE.c0 | apply InitE.c1 | apply InitE.c2 | apply InitE.c3 | apply InitE.c4 | apply InitE.c5 | apply InitE.c6 | apply InitE.c7 | apply InitE.c8 | apply InitE.c9 | apply InitE.c10 | apply InitE.c11))
  by_cases h0 : s = []
  · subst h0
    repeat' (first
      | apply RG.nil
      | apply Lex.nil
      | apply Then.n
      | apply Then.r
      | apply Then.x
      | apply InBlock.n
      | apply InBlock.r
      | apply InBlock.hit
      | (apply InBlock.miss; exact rfl)
      | apply W.seq
      | apply W.region
      | apply W.block
      | apply W.skip
      | apply W.ret
      | apply W.exit
      | ((first | apply U_ | (apply Ug_; exact rfl; exact rfl) | (apply Ugq_; exact rfl; exact rfl)); (first
    | (apply Q_move; (refine Ev.of rfl ?_; first | exact fun _ => ⟨⟩ | exact id | exact And.right | exact And.left | exact (·.1.2) | exact (·.1.1) | exact (·.1.1.1) | exact (·.1.1.2)))
    | (apply Q_assign; (refine Ev.of rfl ?_; first | exact fun _ => ⟨⟩ | exact id | exact And.right | exact And.left | exact (·.1.2) | exact (·.1.1) | exact (·.1.1.1) | exact (·.1.1.2)))
    | (apply Q_add; (refine Ev.of rfl ?_; first | exact fun _ => ⟨⟩ | exact id | exact And.right | exact And.left | exact (·.1.2) | exact (·.1.1) | exact (·.1.1.1) | exact (·.1.1.2)); (refine Ev.of rfl ?_; first | exact fun _ => ⟨⟩ | exact id | exact And.right | exact And.left | exact (·.1.2) | exact (·.1.1) | exact (·.1.1.1) | exact (·.1.1.2)); (first | omega | (constructor <;> omega)))
    | (apply Q_add8; (refine Ev.of rfl ?_; first | exact fun _ => ⟨⟩ | exact id | exact And.right | exact And.left | exact (·.1.2) | exact (·.1.1) | exact (·.1.1.1) | exact (·.1.1.2)); (refine Ev.of rfl ?_; first | exact fun _ => ⟨⟩ | exact id | exact And.right | exact And.left | exact (·.1.2) | exact (·.1.1) | exact (·.1.1.1) | exact (·.1.1.2)); (first | omega | (constructor <;> omega)))
    | (apply Q_bin; (refine Ev.of rfl ?_; first | exact fun _ => ⟨⟩ | exact id | exact And.right | exact And.left | exact (·.1.2) | exact (·.1.1) | exact (·.1.1.1) | exact (·.1.1.2)); (refine Ev.of rfl ?_; first | exact fun _ => ⟨⟩ | exact id | exact And.right | exact And.left | exact (·.1.2) | exact (·.1.1) | exact (·.1.1.1) | exact (·.1.1.2)); exact rfl)
    | (apply Q_or; (refine Ev.of rfl ?_; first | exact fun _ => ⟨⟩ | exact id | exact And.right | exact And.left | exact (·.1.2) | exact (·.1.1) | exact (·.1.1.1) | exact (·.1.1.2)); (refine Ev.of rfl ?_; first | exact fun _ => ⟨⟩ | exact id | exact And.right | exact And.left | exact (·.1.2) | exact (·.1.1) | exact (·.1.1.1) | exact (·.1.1.2)))
    | (apply Q_and; (refine Ev.of rfl ?_; first | exact fun _ => ⟨⟩ | exact id | exact And.right | exact And.left | exact (·.1.2) | exact (·.1.1) | exact (·.1.1.1) | exact (·.1.1.2)); (refine Ev.of rfl ?_; first | exact fun _ => ⟨⟩ | exact id | exact And.right | exact And.left | exact (·.1.2) | exact (·.1.1) | exact (·.1.1.1) | exact (·.1.1.2)))
    | (apply Q_not; (refine Ev.of rfl ?_; first | exact fun _ => ⟨⟩ | exact id | exact And.right | exact And.left | exact (·.1.2) | exact (·.1.1) | exact (·.1.1.1) | exact (·.1.1.2)))
    | (apply Q_lenm TYok; (refine Ev.of rfl ?_; first | exact fun _ => ⟨⟩ | exact id | exact And.right | exact And.left | exact (·.1.2) | exact (·.1.1) | exact (·.1.1.1) | exact (·.1.1.2)); exact rfl; exact rfl)
    | (apply Q_lend TYok; (refine Ev.of rfl ?_; first | exact fun _ => ⟨⟩ | exact id | exact And.right | exact And.left | exact (·.1.2) | exact (·.1.1) | exact (·.1.1.1) | exact (·.1.1.2)); exact rfl; exact rfl)
    | (apply Q_lenom TYok; (refine Ev.of rfl ?_; first | exact fun _ => ⟨⟩ | exact id | exact And.right | exact And.left | exact (·.1.2) | exact (·.1.1) | exact (·.1.1.1) | exact (·.1.1.2)); exact rfl; exact rfl; exact rfl)
    | (apply Q_len TYok; (refine Ev.of rfl ?_; first | exact fun _ => ⟨⟩ | exact id | exact And.right | exact And.left | exact (·.1.2) | exact (·.1.1) | exact (·.1.1.1) | exact (·.1.1.2)); exact rfl; exact rfl; exact rfl)
    | (apply Q_len0 TYok; (refine Ev.of rfl ?_; first | exact fun _ => ⟨⟩ | exact id | exact And.right | exact And.left | exact (·.1.2) | exact (·.1.1) | exact (·.1.1.1) | exact (·.1.1.2)); exact rfl; exact rfl)
    | (apply Q_lens TYok; (refine Ev.of rfl ?_; first | exact fun _ => ⟨⟩ | exact id | exact And.right | exact And.left | exact (·.1.2) | exact (·.1.1) | exact (·.1.1.1) | exact (·.1.1.2)); exact rfl; exact rfl)
    | (apply Q_binS; (refine Ev.of rfl ?_; first | exact fun _ => ⟨⟩ | exact id | exact And.right | exact And.left | exact (·.1.2) | exact (·.1.1) | exact (·.1.1.1) | exact (·.1.1.2)); (refine Ev.of rfl ?_; first | exact fun _ => ⟨⟩ | exact id | exact And.right | exact And.left | exact (·.1.2) | exact (·.1.1) | exact (·.1.1.1) | exact (·.1.1.2)); exact rfl)
    | (apply Q_indexs TYok; (refine Ev.of rfl ?_; first | exact fun _ => ⟨⟩ | exact id | exact And.right | exact And.left | exact (·.1.2) | exact (·.1.1) | exact (·.1.1.1) | exact (·.1.1.2)); (refine Ev.of rfl ?_; first | exact fun _ => ⟨⟩ | exact id | exact And.right | exact And.left | exact (·.1.2) | exact (·.1.1) | exact (·.1.1.1) | exact (·.1.1.2)); exact rfl; exact rfl; (intro hg; exact strAt (by first | omega | (simp at hg; omega) | (simp at hg; done))))
    | (apply Q_cat; (refine Ev.of rfl ?_; first | exact fun _ => ⟨⟩ | exact id | exact And.right | exact And.left | exact (·.1.2) | exact (·.1.1) | exact (·.1.1.1) | exact (·.1.1.2)); (refine Ev.of rfl ?_; first | exact fun _ => ⟨⟩ | exact id | exact And.right | exact And.left | exact (·.1.2) | exact (·.1.1) | exact (·.1.1.1) | exact (·.1.1.2)); (intro hg; first | omega | (simp; omega) | (simp at hg ⊢; omega)))
    | (apply Q_call (rletter_ok 0); (repeat (first | exact EvL.nil | refine EvL.cons (by refine Ev.of rfl ?_; first | exact fun _ => ⟨⟩ | exact id | exact And.right | exact And.left | exact (·.1.2) | exact (·.1.1) | exact (·.1.1.1) | exact (·.1.1.2)) rfl (by first | exact PSub.rfl' | exact PSub.nil' | (refine PSub.of_eq ?_; simp only [List.map_append, List.map_cons, List.map_nil, List.nil_append]; rfl)) ?_)); exact rfl)
    | (apply Q_call (rletter_ok (nth [] 0)); (repeat (first | exact EvL.nil | refine EvL.cons (by refine Ev.of rfl ?_; first | exact fun _ => ⟨⟩ | exact id | exact And.right | exact And.left | exact (·.1.2) | exact (·.1.1) | exact (·.1.1.1) | exact (·.1.1.2)) rfl (by first | exact PSub.rfl' | exact PSub.nil' | (refine PSub.of_eq ?_; simp only [List.map_append, List.map_cons, List.map_nil, List.nil_append]; rfl)) ?_)); exact rfl)); exact rfl)
      | (apply RG.gT; exact rfl; exact rfl; (first | assumption | decide))
      | (apply RG.gF; exact rfl; exact rfl; (first | assumption | decide); exact rfl)
      | (refine W.cond (by refine Ev.of rfl ?_; first | exact fun _ => ⟨⟩ | exact id | exact And.right | exact And.left | exact (·.1.2) | exact (·.1.1) | exact (·.1.1.1) | exact (·.1.1.2)) (fun hb => ?_) (fun hb => ?_) <;> (try simp at hb) <;> (try (exfalso; omega))))
    have e : wordF [] = false := by decide
    rw [e]
    exact Fin.ret (by repeat (first | exact ResL.nil | refine ResL.cons rfl rfl (by first | exact PSub.rfl' | exact PSub.nil' | (refine PSub.of_eq ?_; simp; done) | (refine PSub.of_eq ?_; simp only [List.map_append, List.map_cons, List.map_nil]; rfl) | (refine PSub.of_eq ?_; simp; rfl)) ?_))
  have hpos : 0 < s.length := List.length_pos_iff.2 h0
  repeat' (first
    | apply RG.nil
    | apply Lex.nil
    | apply Then.n
    | apply Then.r
    | apply Then.x
    | apply InBlock.n
    | apply InBlock.r
    | apply InBlock.hit
    | (apply InBlock.miss; exact rfl)
    | apply W.seq
    | apply W.region
    | apply W.block
    | apply W.skip
    | apply W.ret
    | apply W.exit
    | ((first | apply U_ | (apply Ug_; exact rfl; exact rfl) | (apply Ugq_; exact rfl; exact rfl)); (first
    | (apply Q_move; (refine Ev.of rfl ?_; first | exact fun _ => ⟨⟩ | exact id | exact And.right | exact And.left | exact (·.1.2) | exact (·.1.1) | exact (·.1.1.1) | exact (·.1.1.2)))
    | (apply Q_assign; (refine Ev.of rfl ?_; first | exact fun _ => ⟨⟩ | exact id | exact And.right | exact And.left | exact (·.1.2) | exact (·.1.1) | exact (·.1.1.1) | exact (·.1.1.2)))
    | (apply Q_add; (refine Ev.of rfl ?_; first | exact fun _ => ⟨⟩ | exact id | exact And.right | exact And.left | exact (·.1.2) | exact (·.1.1) | exact (·.1.1.1) | exact (·.1.1.2)); (refine Ev.of rfl ?_; first | exact fun _ => ⟨⟩ | exact id | exact And.right | exact And.left | exact (·.1.2) | exact (·.1.1) | exact (·.1.1.1) | exact (·.1.1.2)); (first | omega | (constructor <;> omega)))
    | (apply Q_add8; (refine Ev.of rfl ?_; first | exact fun _ => ⟨⟩ | exact id | exact And.right | exact And.left | exact (·.1.2) | exact (·.1.1) | exact (·.1.1.1) | exact (·.1.1.2)); (refine Ev.of rfl ?_; first | exact fun _ => ⟨⟩ | exact id | exact And.right | exact And.left | exact (·.1.2) | exact (·.1.1) | exact (·.1.1.1) | exact (·.1.1.2)); (first | omega | (constructor <;> omega)))
    | (apply Q_bin; (refine Ev.of rfl ?_; first | exact fun _ => ⟨⟩ | exact id | exact And.right | exact And.left | exact (·.1.2) | exact (·.1.1) | exact (·.1.1.1) | exact (·.1.1.2)); (refine Ev.of rfl ?_; first | exact fun _ => ⟨⟩ | exact id | exact And.right | exact And.left | exact (·.1.2) | exact (·.1.1) | exact (·.1.1.1) | exact (·.1.1.2)); exact rfl)
    | (apply Q_or; (refine Ev.of rfl ?_; first | exact fun _ => ⟨⟩ | exact id | exact And.right | exact And.left | exact (·.1.2) | exact (·.1.1) | exact (·.1.1.1) | exact (·.1.1.2)); (refine Ev.of rfl ?_; first | exact fun _ => ⟨⟩ | exact id | exact And.right | exact And.left | exact (·.1.2) | exact (·.1.1) | exact (·.1.1.1) | exact (·.1.1.2)))
    | (apply Q_and; (refine Ev.of rfl ?_; first | exact fun _ => ⟨⟩ | exact id | exact And.right | exact And.left | exact (·.1.2) | exact (·.1.1) | exact (·.1.1.1) | exact (·.1.1.2)); (refine Ev.of rfl ?_; first | exact fun _ => ⟨⟩ | exact id | exact And.right | exact And.left | exact (·.1.2) | exact (·.1.1) | exact (·.1.1.1) | exact (·.1.1.2)))
    | (apply Q_not; (refine Ev.of rfl ?_; first | exact fun _ => ⟨⟩ | exact id | exact And.right | exact And.left | exact (·.1.2) | exact (·.1.1) | exact (·.1.1.1) | exact (·.1.1.2)))
    | (apply Q_lenm TYok; (refine Ev.of rfl ?_; first | exact fun _ => ⟨⟩ | exact id | exact And.right | exact And.left | exact (·.1.2) | exact (·.1.1) | exact (·.1.1.1) | exact (·.1.1.2)); exact rfl; exact rfl)
    | (apply Q_lend TYok; (refine Ev.of rfl ?_; first | exact fun _ => ⟨⟩ | exact id | exact And.right | exact And.left | exact (·.1.2) | exact (·.1.1) | exact (·.1.1.1) | exact (·.1.1.2)); exact rfl; exact rfl)
    | (apply Q_lenom TYok; (refine Ev.of rfl ?_; first | exact fun _ => ⟨⟩ | exact id | exact And.right | exact And.left | exact (·.1.2) | exact (·.1.1) | exact (·.1.1.1) | exact (·.1.1.2)); exact rfl; exact rfl; exact rfl)
    | (apply Q_len TYok; (refine Ev.of rfl ?_; first | exact fun _ => ⟨⟩ | exact id | exact And.right | exact And.left | exact (·.1.2) | exact (·.1.1) | exact (·.1.1.1) | exact (·.1.1.2)); exact rfl; exact rfl; exact rfl)
    | (apply Q_len0 TYok; (refine Ev.of rfl ?_; first | exact fun _ => ⟨⟩ | exact id | exact And.right | exact And.left | exact (·.1.2) | exact (·.1.1) | exact (·.1.1.1) | exact (·.1.1.2)); exact rfl; exact rfl)
    | (apply Q_lens TYok; (refine Ev.of rfl ?_; first | exact fun _ => ⟨⟩ | exact id | exact And.right | exact And.left | exact (·.1.2) | exact (·.1.1) | exact (·.1.1.1) | exact (·.1.1.2)); exact rfl; exact rfl)
    | (apply Q_binS; (refine Ev.of rfl ?_; first | exact fun _ => ⟨⟩ | exact id | exact And.right | exact And.left | exact (·.1.2) | exact (·.1.1) | exact (·.1.1.1) | exact (·.1.1.2)); (refine Ev.of rfl ?_; first | exact fun _ => ⟨⟩ | exact id | exact And.right | exact And.left | exact (·.1.2) | exact (·.1.1) | exact (·.1.1.1) | exact (·.1.1.2)); exact rfl)
    | (apply Q_indexs TYok; (refine Ev.of rfl ?_; first | exact fun _ => ⟨⟩ | exact id | exact And.right | exact And.left | exact (·.1.2) | exact (·.1.1) | exact (·.1.1.1) | exact (·.1.1.2)); (refine Ev.of rfl ?_; first | exact fun _ => ⟨⟩ | exact id | exact And.right | exact And.left | exact (·.1.2) | exact (·.1.1) | exact (·.1.1.1) | exact (·.1.1.2)); exact rfl; exact rfl; (intro hg; exact strAt (by first | omega | (simp at hg; omega) | (simp at hg; done))))
    | (apply Q_cat; (refine Ev.of rfl ?_; first | exact fun _ => ⟨⟩ | exact id | exact And.right | exact And.left | exact (·.1.2) | exact (·.1.1) | exact (·.1.1.1) | exact (·.1.1.2)); (refine Ev.of rfl ?_; first | exact fun _ => ⟨⟩ | exact id | exact And.right | exact And.left | exact (·.1.2) | exact (·.1.1) | exact (·.1.1.1) | exact (·.1.1.2)); (intro hg; first | omega | (simp; omega) | (simp at hg ⊢; omega)))
    | (apply Q_call (rletter_ok (nth s 0)); (repeat (first | exact EvL.nil | refine EvL.cons (by refine Ev.of rfl ?_; first | exact fun _ => ⟨⟩ | exact id | exact And.right | exact And.left | exact (·.1.2) | exact (·.1.1) | exact (·.1.1.1) | exact (·.1.1.2)) rfl (by first | exact PSub.rfl' | exact PSub.nil' | (refine PSub.of_eq ?_; simp only [List.map_append, List.map_cons, List.map_nil, List.nil_append]; rfl)) ?_)); exact rfl)); exact rfl)
    | (apply RG.gT; exact rfl; exact rfl; (first | assumption | decide))
    | (apply RG.gF; exact rfl; exact rfl; (first | assumption | decide); exact rfl)
    | (refine W.cond (by refine Ev.of rfl ?_; first | exact fun _ => ⟨⟩ | exact id | exact And.right | exact And.left | exact (·.1.2) | exact (·.1.1) | exact (·.1.1.1) | exact (·.1.1.2)) (fun hb => ?_) (fun hb => ?_) <;> (try simp at hb) <;> (try (exfalso; omega))))
  · have e : wordF s = false := by
      rcases hb with (h | h) | h
      · omega
      · simp [wordF, show ¬ (s.length ≤ 20) by omega]
      · simp [wordF, byt_nth, h]
    rw [e]
    exact Fin.ret (by repeat (first | exact ResL.nil | refine ResL.cons rfl rfl (by first | exact PSub.rfl' | exact PSub.nil' | (refine PSub.of_eq ?_; simp; done) | (refine PSub.of_eq ?_; simp only [List.map_append, List.map_cons, List.map_nil]; rfl) | (refine PSub.of_eq ?_; simp; rfl)) ?_))
  apply W.loopP (σ := Nat) 36 [0] (fun k => 1 ≤ k ∧ k ≤ s.length ∧ wordF s = (s.drop k).all alnum) (fun k => [(3, vI k)]) (fun _ => []) (fun k => s.length - k) (1)
  case hp => repeat (first | exact Pick.nil | apply Pick.cons rfl)
  case h0 =>
    refine ⟨⟨by omega, by omega, ?_⟩, ?_⟩
    · have ha : alnum (nth s 0) = true := by simp [alnum, hb.2]
      have := all_drop (p := alnum) hpos
      rw [List.drop_zero, ha, Bool.true_and] at this
      rw [← this]
      simp [wordF, h0, byt_nth, hb.2, show s.length ≤ 20 by omega]
    · refine Le.mkR rfl rfl ?_ ?_ ?_ rfl
      · repeat (first | exact SubR.nil | apply SubR.p rfl (by first | rfl | (simp; done) | (congr 3; omega) | (congr 3; simp; omega)) | apply SubR.s rfl rfl rfl | apply SubR.a rfl rfl rfl | apply SubR.t rfl rfl | apply SubR.m rfl rfl rfl | apply SubR.i rfl rfl rfl rfl rfl)
      · repeat (first | exact SubR.nil | apply SubR.p rfl (by first | rfl | (simp; done) | (congr 3; omega) | (congr 3; simp; omega)) | apply SubR.s rfl rfl rfl | apply SubR.a rfl rfl rfl | apply SubR.t rfl rfl | apply SubR.m rfl rfl rfl | apply SubR.i rfl rfl rfl rfl rfl)
      · repeat (first | exact SubBR.nil | apply SubBR.cons rfl (by first | rfl | (simp only [List.map_append, List.map_replicate, List.map_cons, List.map_nil]; rfl) | (simp only [List.map_append, List.map_cons, List.map_nil, List.append_assoc, List.cons_append, List.nil_append]; rfl) | (simp; done)))
  case round =>
    rintro k ⟨h1, h2, h3⟩
    apply W.norm (by repeat (first | exact App.nil | apply App.cons))
    repeat' (first
      | apply RG.nil
      | apply Lex.nil
      | apply Then.n
      | apply Then.r
      | apply Then.x
      | apply InBlock.n
      | apply InBlock.r
      | apply InBlock.hit
      | (apply InBlock.miss; exact rfl)
      | apply W.seq
      | apply W.region
      | apply W.block
      | apply W.skip
      | apply W.ret
      | apply W.exit
      | ((first | apply U_ | (apply Ug_; exact rfl; exact rfl) | (apply Ugq_; exact rfl; exact rfl)); (first
    | (apply Q_move; (refine Ev.of rfl ?_; first | exact fun _ => ⟨⟩ | exact id | exact And.right | exact And.left | exact (·.1.2) | exact (·.1.1) | exact (·.1.1.1) | exact (·.1.1.2)))
    | (apply Q_assign; (refine Ev.of rfl ?_; first | exact fun _ => ⟨⟩ | exact id | exact And.right | exact And.left | exact (·.1.2) | exact (·.1.1) | exact (·.1.1.1) | exact (·.1.1.2)))
    | (apply Q_add; (refine Ev.of rfl ?_; first | exact fun _ => ⟨⟩ | exact id | exact And.right | exact And.left | exact (·.1.2) | exact (·.1.1) | exact (·.1.1.1) | exact (·.1.1.2)); (refine Ev.of rfl ?_; first | exact fun _ => ⟨⟩ | exact id | exact And.right | exact And.left | exact (·.1.2) | exact (·.1.1) | exact (·.1.1.1) | exact (·.1.1.2)); (first | omega | (constructor <;> omega)))
    | (apply Q_add8; (refine Ev.of rfl ?_; first | exact fun _ => ⟨⟩ | exact id | exact And.right | exact And.left | exact (·.1.2) | exact (·.1.1) | exact (·.1.1.1) | exact (·.1.1.2)); (refine Ev.of rfl ?_; first | exact fun _ => ⟨⟩ | exact id | exact And.right | exact And.left | exact (·.1.2) | exact (·.1.1) | exact (·.1.1.1) | exact (·.1.1.2)); (first | omega | (constructor <;> omega)))
    | (apply Q_bin; (refine Ev.of rfl ?_; first | exact fun _ => ⟨⟩ | exact id | exact And.right | exact And.left | exact (·.1.2) | exact (·.1.1) | exact (·.1.1.1) | exact (·.1.1.2)); (refine Ev.of rfl ?_; first | exact fun _ => ⟨⟩ | exact id | exact And.right | exact And.left | exact (·.1.2) | exact (·.1.1) | exact (·.1.1.1) | exact (·.1.1.2)); exact rfl)
    | (apply Q_or; (refine Ev.of rfl ?_; first | exact fun _ => ⟨⟩ | exact id | exact And.right | exact And.left | exact (·.1.2) | exact (·.1.1) | exact (·.1.1.1) | exact (·.1.1.2)); (refine Ev.of rfl ?_; first | exact fun _ => ⟨⟩ | exact id | exact And.right | exact And.left | exact (·.1.2) | exact (·.1.1) | exact (·.1.1.1) | exact (·.1.1.2)))
    | (apply Q_and; (refine Ev.of rfl ?_; first | exact fun _ => ⟨⟩ | exact id | exact And.right | exact And.left | exact (·.1.2) | exact (·.1.1) | exact (·.1.1.1) | exact (·.1.1.2)); (refine Ev.of rfl ?_; first | exact fun _ => ⟨⟩ | exact id | exact And.right | exact And.left | exact (·.1.2) | exact (·.1.1) | exact (·.1.1.1) | exact (·.1.1.2)))
    | (apply Q_not; (refine Ev.of rfl ?_; first | exact fun _ => ⟨⟩ | exact id | exact And.right | exact And.left | exact (·.1.2) | exact (·.1.1) | exact (·.1.1.1) | exact (·.1.1.2)))
    | (apply Q_lenm TYok; (refine Ev.of rfl ?_; first | exact fun _ => ⟨⟩ | exact id | exact And.right | exact And.left | exact (·.1.2) | exact (·.1.1) | exact (·.1.1.1) | exact (·.1.1.2)); exact rfl; exact rfl)
    | (apply Q_lend TYok; (refine Ev.of rfl ?_; first | exact fun _ => ⟨⟩ | exact id | exact And.right | exact And.left | exact (·.1.2) | exact (·.1.1) | exact (·.1.1.1) | exact (·.1.1.2)); exact rfl; exact rfl)
    | (apply Q_lenom TYok; (refine Ev.of rfl ?_; first | exact fun _ => ⟨⟩ | exact id | exact And.right | exact And.left | exact (·.1.2) | exact (·.1.1) | exact (·.1.1.1) | exact (·.1.1.2)); exact rfl; exact rfl; exact rfl)
    | (apply Q_len TYok; (refine Ev.of rfl ?_; first | exact fun _ => ⟨⟩ | exact id | exact And.right | exact And.left | exact (·.1.2) | exact (·.1.1) | exact (·.1.1.1) | exact (·.1.1.2)); exact rfl; exact rfl; exact rfl)
    | (apply Q_len0 TYok; (refine Ev.of rfl ?_; first | exact fun _ => ⟨⟩ | exact id | exact And.right | exact And.left | exact (·.1.2) | exact (·.1.1) | exact (·.1.1.1) | exact (·.1.1.2)); exact rfl; exact rfl)
    | (apply Q_lens TYok; (refine Ev.of rfl ?_; first | exact fun _ => ⟨⟩ | exact id | exact And.right | exact And.left | exact (·.1.2) | exact (·.1.1) | exact (·.1.1.1) | exact (·.1.1.2)); exact rfl; exact rfl)
    | (apply Q_binS; (refine Ev.of rfl ?_; first | exact fun _ => ⟨⟩ | exact id | exact And.right | exact And.left | exact (·.1.2) | exact (·.1.1) | exact (·.1.1.1) | exact (·.1.1.2)); (refine Ev.of rfl ?_; first | exact fun _ => ⟨⟩ | exact id | exact And.right | exact And.left | exact (·.1.2) | exact (·.1.1) | exact (·.1.1.1) | exact (·.1.1.2)); exact rfl)
    | (apply Q_indexs TYok; (refine Ev.of rfl ?_; first | exact fun _ => ⟨⟩ | exact id | exact And.right | exact And.left | exact (·.1.2) | exact (·.1.1) | exact (·.1.1.1) | exact (·.1.1.2)); (refine Ev.of rfl ?_; first | exact fun _ => ⟨⟩ | exact id | exact And.right | exact And.left | exact (·.1.2) | exact (·.1.1) | exact (·.1.1.1) | exact (·.1.1.2)); exact rfl; exact rfl; (intro hg; exact strAt (by first | omega | (simp at hg; omega) | (simp at hg; done))))
    | (apply Q_cat; (refine Ev.of rfl ?_; first | exact fun _ => ⟨⟩ | exact id | exact And.right | exact And.left | exact (·.1.2) | exact (·.1.1) | exact (·.1.1.1) | exact (·.1.1.2)); (refine Ev.of rfl ?_; first | exact fun _ => ⟨⟩ | exact id | exact And.right | exact And.left | exact (·.1.2) | exact (·.1.1) | exact (·.1.1.1) | exact (·.1.1.2)); (intro hg; first | omega | (simp; omega) | (simp at hg ⊢; omega)))
    | (apply Q_call (rletter_ok (nth s k)); (repeat (first | exact EvL.nil | refine EvL.cons (by refine Ev.of rfl ?_; first | exact fun _ => ⟨⟩ | exact id | exact And.right | exact And.left | exact (·.1.2) | exact (·.1.1) | exact (·.1.1.1) | exact (·.1.1.2)) rfl (by first | exact PSub.rfl' | exact PSub.nil' | (refine PSub.of_eq ?_; simp only [List.map_append, List.map_cons, List.map_nil, List.nil_append]; rfl)) ?_)); exact rfl)
    | (apply Q_call (rdigit_ok (nth s k)); (repeat (first | exact EvL.nil | refine EvL.cons (by refine Ev.of rfl ?_; first | exact fun _ => ⟨⟩ | exact id | exact And.right | exact And.left | exact (·.1.2) | exact (·.1.1) | exact (·.1.1.1) | exact (·.1.1.2)) rfl (by first | exact PSub.rfl' | exact PSub.nil' | (refine PSub.of_eq ?_; simp only [List.map_append, List.map_cons, List.map_nil, List.nil_append]; rfl)) ?_)); exact rfl)); exact rfl)
      | (apply RG.gT; exact rfl; exact rfl; (first | assumption | decide))
      | (apply RG.gF; exact rfl; exact rfl; (first | assumption | decide); exact rfl)
      | (refine W.cond (by refine Ev.of rfl ?_; first | exact fun _ => ⟨⟩ | exact id | exact And.right | exact And.left | exact (·.1.2) | exact (·.1.1) | exact (·.1.1.1) | exact (·.1.1.2)) (fun hb => ?_) (fun hb => ?_) <;> (try simp at hb) <;> (try (exfalso; omega))))
    · have e : wordF s = false := by
        rw [h3, all_drop (by omega)]; simp [alnum, hb.1, hb.2]
      rw [e]
      exact Fin.ret (by repeat (first | exact ResL.nil | refine ResL.cons rfl rfl (by first | exact PSub.rfl' | exact PSub.nil' | (refine PSub.of_eq ?_; simp; done) | (refine PSub.of_eq ?_; simp only [List.map_append, List.map_cons, List.map_nil]; rfl) | (refine PSub.of_eq ?_; simp; rfl)) ?_))
    · refine ⟨k + 1, ⟨by omega, by omega, ?_⟩, ?_, ?_⟩
      · rw [h3, all_drop (by omega)]
        have : alnum (nth s k) = true := by
          cases ha : letterF (nth s k) with
          | true => simp [alnum, ha]
          | false => simp [alnum, hb ha]
        rw [this, Bool.true_and]
      · refine Le.mkR rfl rfl ?_ ?_ ?_ rfl
        · repeat (first | exact SubR.nil | apply SubR.p rfl (by first | rfl | (simp; done) | (congr 3; omega) | (congr 3; simp; omega)) | apply SubR.s rfl rfl rfl | apply SubR.a rfl rfl rfl | apply SubR.t rfl rfl | apply SubR.m rfl rfl rfl | apply SubR.i rfl rfl rfl rfl rfl)
        · repeat (first | exact SubR.nil | apply SubR.p rfl (by first | rfl | (simp; done) | (congr 3; omega) | (congr 3; simp; omega)) | apply SubR.s rfl rfl rfl | apply SubR.a rfl rfl rfl | apply SubR.t rfl rfl | apply SubR.m rfl rfl rfl | apply SubR.i rfl rfl rfl rfl rfl)
        · repeat (first | exact SubBR.nil | apply SubBR.cons rfl (by first | rfl | (simp only [List.map_append, List.map_replicate, List.map_cons, List.map_nil]; rfl) | (simp only [List.map_append, List.map_cons, List.map_nil, List.append_assoc, List.cons_append, List.nil_append]; rfl) | (simp; done)))
      · (try simp only); omega
    · obtain rfl : k = s.length := by omega
      rw [List.drop_length] at h3
      rw [h3]
      exact Fin.ret (by repeat (first | exact ResL.nil | refine ResL.cons rfl rfl (by first | exact PSub.rfl' | exact PSub.nil' | (refine PSub.of_eq ?_; simp; done) | (refine PSub.of_eq ?_; simp only [List.map_append, List.map_cons, List.map_nil]; rfl) | (refine PSub.of_eq ?_; simp; rfl)) ?_))
end Go.Proofs.YtcllkfehcnpdmaaDoor
