/-
  Right expressions, operations 18.
-/
import Derived.Test.YtionjeodcmnneaaWalk3
import Derived.Test.YtionjeodcmnneaaLfDrawE
set_option linter.unusedVariables false
set_option linter.unusedSimpArgs false
set_option maxHeartbeats 8000000
namespace Go.Proofs.Ytionjeodcmnneaa
open Lf Go
attribute [local irreducible] PureOp EffOp Ev RG W Then InBlock Lf.Fin nth App InitE Pick SubE SubF SubG EvL EvD EvP EvR ResL Lf.Lex SubR SubBR RA RAll EvC FinO FinM ResM FinB ResD

theorem right18_a
    {d : Nat} {n u : Int} {s : Str} {l : List Exp} (hs : s.length ≤ 9223372036854775807) (hl : l.length ≤ 9223372036854775807) (hlen : (l.length : Int) = opsF 18)
    (hdc : (((d + 1 : Nat) : Int)) ≠ 0) (hdb : (d : Int) ≤ 100) (ih : ∀ x ∈ l, ACalls Try.prog 72 [aE x, cI (((d + 1 : Nat) : Int) - 1)] (.pv (cB (rightF d x)))) (cl : ∀ x ∈ l, ACalls Try.prog 86 [aE x, .one (.ptr [.int .i64 ((d + 1 : Nat) : Int)])] (.pv (cB (!rightF d x))))
    (hA : (decide (u = 0) && decide (s = E0)) = false) : ACalls Try.prog 72 [.agg [.int .i64 18, .int .i64 n, .int .i64 u, .str s, .sl (l.map encX)], cI ((d + 1 : Nat) : Int)] (.pv (cB false)) := by
  refine ACalls.of_W (qs := [cB false]) [4] 104 Try.func72 (by kernel_rfl) rfl rfl rfl fun G => ?_
  refine W.initA (hw := ?_)
  repeat' (first
    | apply RG.nil
    | apply Lex.nil
    | apply Then.n
    | apply Then.r
    | apply Then.x
    | apply InBlock.n
    | apply InBlock.r
    | apply InBlock.hit
    | (apply InBlock.miss; exact rfl)
    | apply W.seq
    | apply W.region
    | apply W.block
    | apply W.skip
    | apply W.ret
    | apply W.exit
    | (apply W.draw2 (id := 1) [0, 1, 3, 7, 15, 31, 7, 71, 199, 511, 1023] [[3], [6], [7], [2, 8], [9, 8], [10, 8], [2, 8], [12, 8], [13, 8], [11, 14, 8], [8, 15]] 11 [(6, 8), (7, 64), (8, 128), (9, 260), (10, 768), (11, 1280), (12, 260), (13, 4352), (14, 8448), (15, 18688), (16, 33024)] mixed (by kernel_rfl) rfl rfl)
    | (refine W.drawE (id := 16) [0, 1, 3, 7, 15, 31, 63, 127, 255, 511, 1023, 2047, 4095, 8191, 16383, 32767, 65535, 131071, 262143, 32767, 557055, 2097151, 4194303, 8388607] [[2], [61], [62], [63], [2, 64], [65, 64], [66, 64], [64, 67], [68], [2, 69], [70, 69], [71, 69], [72, 69], [69, 73], [74], [2, 75], [76, 75], [77, 75], [78, 75], [3, 75], [80, 75], [79, 81, 75], [75, 82], [83]] [(61, 4), (62, 2305843009213693952), (63, 4611686018427387904), (64, 9223372036854775808), (65, 18446744073709551620), (66, 55340232221128654848), (67, 92233720368547758080), (68, 166020696663385964544), (69, 295147905179352825856), (70, 590295810358705651716), (71, 1770887431076116955136), (72, 2951479051793528258560), (73, 5312662293228350865408), (74, 10035028776097996079104), (75, 18889465931478580854784), (76, 37778931862957161709572), (77, 113336795588871485128704), (78, 188894659314785808547840), (79, 340010386766614455386112), (80, 37778931862957161709576), (81, 1246704751477586336415744), (82, 3060093480899530098475008), (83, 4873482210321473860534272), (4, 9671406556917033397649408)] [] mixed (by kernel_rfl) rfl rfl rfl rfl rfl ?_)
    | apply LexE.nil
    | ((first | apply LexE.u | (apply LexE.g; exact rfl; exact rfl) | (apply LexE.gq; exact rfl; exact rfl)); (first | (first | exact QX.Move TYok | exact QX.Asg TYok | exact QX.Fld TYok | exact QX.Ld TYok | exact QX.Bin TYok | exact QX.Pick TYok | exact QX.Un TYok | exact QX.Len TYok | exact QX.Idx TYok | exact QX.Fun TYok | (apply Q_call (operands_ok 18); exact EvL.auto; exact rfl)) | exact PureOp.off (by intro hp; simp_all; done)); exact rfl; exact rfl; exact rfl)
    | ((first | apply U_ | (apply Ug_; exact rfl; exact rfl) | (apply Ugq_; exact rfl; exact rfl) | apply Lex.u | (apply Lex.g; exact rfl; exact rfl) | (apply Lex.gq; exact rfl; exact rfl)); (first
    | exact QX.Move TYok
    | exact QX.Asg TYok
    | exact QX.Fld TYok
    | exact QX.Ld TYok
    | exact QX.Bin TYok
    | exact QX.Pick TYok
    | exact QX.Un TYok
    | exact QX.Len TYok
    | exact QX.Idx TYok
    | exact QX.Fun TYok
    | (apply Q_call (operands_ok 18); exact EvL.auto; exact rfl)); exact rfl)
    | refine SX.Lit TYok (h := ?_)
    | refine SX.Box TYok (h := ?_)
    | (apply S_isnil TYok; exact rfl; exact rfl; exact rfl; exact Ev.auto; intro bn hnil)
    | (apply RG.gT; exact rfl; exact rfl; (first | assumption | decide))
    | (apply RG.gF; exact rfl; exact rfl; (first | assumption | decide | (rw [ne_eq, Bool.not_eq_true]; assumption) | (rw [ne_eq, Bool.not_eq_false]; assumption)); exact rfl)
    | (refine W.condA (ht := fun hb => ?_) (hf := fun hb => ?_) <;> (try simp at hb) <;> (try (exfalso; omega))))
  all_goals exact Fin.ret ResL.auto
theorem right18_b
    {d : Nat} {n u : Int} {s : Str} {l : List Exp} (hs : s.length ≤ 9223372036854775807) (hl : l.length ≤ 9223372036854775807) (hlen : (l.length : Int) = opsF 18)
    (hdc : (((d + 1 : Nat) : Int)) ≠ 0) (hdb : (d : Int) ≤ 100) (ih : ∀ x ∈ l, ACalls Try.prog 72 [aE x, cI (((d + 1 : Nat) : Int) - 1)] (.pv (cB (rightF d x)))) (cl : ∀ x ∈ l, ACalls Try.prog 86 [aE x, .one (.ptr [.int .i64 ((d + 1 : Nat) : Int)])] (.pv (cB (!rightF d x))))
    (hA : (decide (u = 0) && decide (s = E0)) = true) (hB : [n].all (inF 1 1000) = false) : ACalls Try.prog 72 [.agg [.int .i64 18, .int .i64 n, .int .i64 u, .str s, .sl (l.map encX)], cI ((d + 1 : Nat) : Int)] (.pv (cB false)) := by
  have hC : (decide (u = 0) && decide (s = E0) && [n].all (inF 1 1000)) = false := by rw [hA, hB]; rfl
  refine ACalls.of_W (qs := [cB false]) [4] 104 Try.func72 (by kernel_rfl) rfl rfl rfl fun G => ?_
  refine W.initA (hw := ?_)
  repeat' (first
    | apply RG.nil
    | apply Lex.nil
    | apply Then.n
    | apply Then.r
    | apply Then.x
    | apply InBlock.n
    | apply InBlock.r
    | apply InBlock.hit
    | (apply InBlock.miss; exact rfl)
    | apply W.seq
    | apply W.region
    | apply W.block
    | apply W.skip
    | apply W.ret
    | apply W.exit
    | (apply W.draw2 (id := 1) [0, 1, 3, 7, 15, 31, 7, 71, 199, 511, 1023] [[3], [6], [7], [2, 8], [9, 8], [10, 8], [2, 8], [12, 8], [13, 8], [11, 14, 8], [8, 15]] 11 [(6, 8), (7, 64), (8, 128), (9, 260), (10, 768), (11, 1280), (12, 260), (13, 4352), (14, 8448), (15, 18688), (16, 33024)] mixed (by kernel_rfl) rfl rfl)
    | (refine W.drawE (id := 16) [0, 1, 3, 7, 15, 31, 63, 127, 255, 511, 1023, 2047, 4095, 8191, 16383, 32767, 65535, 131071, 262143, 32767, 557055, 2097151, 4194303, 8388607] [[2], [61], [62], [63], [2, 64], [65, 64], [66, 64], [64, 67], [68], [2, 69], [70, 69], [71, 69], [72, 69], [69, 73], [74], [2, 75], [76, 75], [77, 75], [78, 75], [3, 75], [80, 75], [79, 81, 75], [75, 82], [83]] [(61, 4), (62, 2305843009213693952), (63, 4611686018427387904), (64, 9223372036854775808), (65, 18446744073709551620), (66, 55340232221128654848), (67, 92233720368547758080), (68, 166020696663385964544), (69, 295147905179352825856), (70, 590295810358705651716), (71, 1770887431076116955136), (72, 2951479051793528258560), (73, 5312662293228350865408), (74, 10035028776097996079104), (75, 18889465931478580854784), (76, 37778931862957161709572), (77, 113336795588871485128704), (78, 188894659314785808547840), (79, 340010386766614455386112), (80, 37778931862957161709576), (81, 1246704751477586336415744), (82, 3060093480899530098475008), (83, 4873482210321473860534272), (4, 9671406556917033397649408)] [(11, (72, ⟨3, 1, [[.int .i64 n]]⟩))] mixed (by kernel_rfl) rfl rfl rfl rfl rfl ?_)
    | apply LexE.nil
    | (apply LexE.e (k := 0); exact rfl; apply FreshAt.lit TYok; (repeat (first | exact EvR.nil | apply EvR.cons Ev.auto)); exact rfl; exact rfl; exact rfl; exact rfl; exact rfl; exact rfl; exact rfl; exact rfl; exact rfl; exact rfl; exact rfl)
    | (apply LexE.ge (k := 0); exact rfl; exact rfl; (first | assumption | decide | exact rfl); exact rfl; apply FreshAt.lit TYok; (repeat (first | exact EvR.nil | apply EvR.cons Ev.auto)); exact rfl; exact rfl; exact rfl; exact rfl; exact rfl; exact rfl; exact rfl; exact rfl; exact rfl; exact rfl; exact rfl)
    | ((first | apply LexE.u | (apply LexE.g; exact rfl; exact rfl) | (apply LexE.gq; exact rfl; exact rfl)); (first | (first | exact QX.Move TYok | exact QX.Asg TYok | exact QX.Fld TYok | exact QX.Ld TYok | exact QX.Bin TYok | exact QX.Pick TYok | exact QX.Un TYok | exact QX.Len TYok | exact QX.Idx TYok | exact QX.Fun TYok | (apply Q_call (operands_ok 18); exact EvL.auto; exact rfl) | (apply Q_call (in_ok 1 1000 [n] (by simp)); exact EvL.auto; exact rfl)) | exact PureOp.off (by intro hp; simp_all; done)); exact rfl; exact rfl; exact rfl)
    | ((first | apply U_ | (apply Ug_; exact rfl; exact rfl) | (apply Ugq_; exact rfl; exact rfl) | apply Lex.u | (apply Lex.g; exact rfl; exact rfl) | (apply Lex.gq; exact rfl; exact rfl)); (first
    | exact QX.Move TYok
    | exact QX.Asg TYok
    | exact QX.Fld TYok
    | exact QX.Ld TYok
    | exact QX.Bin TYok
    | exact QX.Pick TYok
    | exact QX.Un TYok
    | exact QX.Len TYok
    | exact QX.Idx TYok
    | exact QX.Fun TYok
    | (apply Q_call (operands_ok 18); exact EvL.auto; exact rfl)
    | (apply Q_call (in_ok 1 1000 [n] (by simp)); exact EvL.auto; exact rfl)); exact rfl)
    | refine SX.Lit TYok (h := ?_)
    | refine SX.Box TYok (h := ?_)
    | (apply S_isnil TYok; exact rfl; exact rfl; exact rfl; exact Ev.auto; intro bn hnil)
    | (apply RG.gT; exact rfl; exact rfl; (first | assumption | decide))
    | (apply RG.gF; exact rfl; exact rfl; (first | assumption | decide | (rw [ne_eq, Bool.not_eq_true]; assumption) | (rw [ne_eq, Bool.not_eq_false]; assumption)); exact rfl)
    | (refine W.condA (ht := fun hb => ?_) (hf := fun hb => ?_) <;> (try simp at hb) <;> (try (exfalso; omega))))
  all_goals exact Fin.ret ResL.auto
theorem right18_c
    {d : Nat} {n u : Int} {s : Str} {l : List Exp} (hs : s.length ≤ 9223372036854775807) (hl : l.length ≤ 9223372036854775807) (hlen : (l.length : Int) = opsF 18)
    (hdc : (((d + 1 : Nat) : Int)) ≠ 0) (hdb : (d : Int) ≤ 100) (ih : ∀ x ∈ l, ACalls Try.prog 72 [aE x, cI (((d + 1 : Nat) : Int) - 1)] (.pv (cB (rightF d x)))) (cl : ∀ x ∈ l, ACalls Try.prog 86 [aE x, .one (.ptr [.int .i64 ((d + 1 : Nat) : Int)])] (.pv (cB (!rightF d x))))
    (hl1 : 0 < l.length) (hA : (decide (u = 0) && decide (s = E0)) = true) (hB : [n].all (inF 1 1000) = true) : ACalls Try.prog 72 [.agg [.int .i64 18, .int .i64 n, .int .i64 u, .str s, .sl (l.map encX)], cI ((d + 1 : Nat) : Int)] (.pv (cB (decide (u = 0) && decide (s = E0) && [n].all (inF 1 1000) && rightF d (nth l 0)))) := by
  have hC : (decide (u = 0) && decide (s = E0) && [n].all (inF 1 1000)) = true := by rw [hA, hB]; rfl
  refine ACalls.of_W (qs := [cB (decide (u = 0) && decide (s = E0) && [n].all (inF 1 1000) && rightF d (nth l 0))]) [4] 104 Try.func72 (by kernel_rfl) rfl rfl rfl fun G => ?_
  refine W.initA (hw := ?_)
  repeat' (first
    | apply RG.nil
    | apply Lex.nil
    | apply Then.n
    | apply Then.r
    | apply Then.x
    | apply InBlock.n
    | apply InBlock.r
    | apply InBlock.hit
    | (apply InBlock.miss; exact rfl)
    | apply W.seq
    | apply W.region
    | apply W.block
    | apply W.skip
    | apply W.ret
    | apply W.exit
    | (apply W.draw2 (id := 1) [0, 1, 3, 7, 15, 31, 7, 71, 199, 511, 1023] [[3], [6], [7], [2, 8], [9, 8], [10, 8], [2, 8], [12, 8], [13, 8], [11, 14, 8], [8, 15]] 11 [(6, 8), (7, 64), (8, 128), (9, 260), (10, 768), (11, 1280), (12, 260), (13, 4352), (14, 8448), (15, 18688), (16, 33024)] mixed (by kernel_rfl) rfl rfl)
    | (refine W.drawE (id := 16) [0, 1, 3, 7, 15, 31, 63, 127, 255, 511, 1023, 2047, 4095, 8191, 16383, 32767, 65535, 131071, 262143, 32767, 557055, 2097151, 4194303, 8388607] [[2], [61], [62], [63], [2, 64], [65, 64], [66, 64], [64, 67], [68], [2, 69], [70, 69], [71, 69], [72, 69], [69, 73], [74], [2, 75], [76, 75], [77, 75], [78, 75], [3, 75], [80, 75], [79, 81, 75], [75, 82], [83]] [(61, 4), (62, 2305843009213693952), (63, 4611686018427387904), (64, 9223372036854775808), (65, 18446744073709551620), (66, 55340232221128654848), (67, 92233720368547758080), (68, 166020696663385964544), (69, 295147905179352825856), (70, 590295810358705651716), (71, 1770887431076116955136), (72, 2951479051793528258560), (73, 5312662293228350865408), (74, 10035028776097996079104), (75, 18889465931478580854784), (76, 37778931862957161709572), (77, 113336795588871485128704), (78, 188894659314785808547840), (79, 340010386766614455386112), (80, 37778931862957161709576), (81, 1246704751477586336415744), (82, 3060093480899530098475008), (83, 4873482210321473860534272), (4, 9671406556917033397649408)] [(11, (72, ⟨3, 1, [[.int .i64 n]]⟩))] mixed (by kernel_rfl) rfl rfl rfl rfl rfl ?_)
    | apply LexE.nil
    | (apply LexE.e (k := 0); exact rfl; apply FreshAt.lit TYok; (repeat (first | exact EvR.nil | apply EvR.cons Ev.auto)); exact rfl; exact rfl; exact rfl; exact rfl; exact rfl; exact rfl; exact rfl; exact rfl; exact rfl; exact rfl; exact rfl)
    | (apply LexE.ge (k := 0); exact rfl; exact rfl; (first | assumption | decide | exact rfl); exact rfl; apply FreshAt.lit TYok; (repeat (first | exact EvR.nil | apply EvR.cons Ev.auto)); exact rfl; exact rfl; exact rfl; exact rfl; exact rfl; exact rfl; exact rfl; exact rfl; exact rfl; exact rfl; exact rfl)
    | ((first | apply LexE.u | (apply LexE.g; exact rfl; exact rfl) | (apply LexE.gq; exact rfl; exact rfl)); (first | (first | exact QX.Move TYok | exact QX.Asg TYok | exact QX.Fld TYok | exact QX.Ld TYok | exact QX.Bin TYok | exact QX.Pick TYok | exact QX.Un TYok | exact QX.Len TYok | exact QX.Idx TYok | exact QX.Fun TYok | (apply Q_call (operands_ok 18); exact EvL.auto; exact rfl) | (apply Q_call (in_ok 1 1000 [n] (by simp)); exact EvL.auto; exact rfl) | (apply Q_call (ih (nth l 0) (nth_mem hl1)); exact EvL.auto; exact rfl)) | exact PureOp.off (by intro hp; simp_all; done)); exact rfl; exact rfl; exact rfl)
    | ((first | apply U_ | (apply Ug_; exact rfl; exact rfl) | (apply Ugq_; exact rfl; exact rfl) | apply Lex.u | (apply Lex.g; exact rfl; exact rfl) | (apply Lex.gq; exact rfl; exact rfl)); (first
    | exact QX.Move TYok
    | exact QX.Asg TYok
    | exact QX.Fld TYok
    | exact QX.Ld TYok
    | exact QX.Bin TYok
    | exact QX.Pick TYok
    | exact QX.Un TYok
    | exact QX.Len TYok
    | exact QX.Idx TYok
    | exact QX.Fun TYok
    | (apply Q_call (operands_ok 18); exact EvL.auto; exact rfl)
    | (apply Q_call (in_ok 1 1000 [n] (by simp)); exact EvL.auto; exact rfl)
    | (apply Q_call (ih (nth l 0) (nth_mem hl1)); exact EvL.auto; exact rfl)); exact rfl)
    | refine SX.Lit TYok (h := ?_)
    | refine SX.Box TYok (h := ?_)
    | (apply S_isnil TYok; exact rfl; exact rfl; exact rfl; exact Ev.auto; intro bn hnil)
    | (apply RG.gT; exact rfl; exact rfl; (first | assumption | decide))
    | (apply RG.gF; exact rfl; exact rfl; (first | assumption | decide | (rw [ne_eq, Bool.not_eq_true]; assumption) | (rw [ne_eq, Bool.not_eq_false]; assumption)); exact rfl)
    | (refine W.condA (ht := fun hb => ?_) (hf := fun hb => ?_) <;> (try simp at hb) <;> (try (exfalso; omega))))
  all_goals exact Fin.ret ResL.auto
end Go.Proofs.Ytionjeodcmnneaa
