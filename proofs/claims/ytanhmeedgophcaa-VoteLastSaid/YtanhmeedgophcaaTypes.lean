/-
  The types of the seat, as the value-level logic takes them, each held against the program.
-/
import Derived.Test.YtanhmeedgophcaaRows
import Derived.Test.YtanhmeedgophcaaLfMore
import Derived.KernelRfl
set_option maxRecDepth 100000
set_option maxHeartbeats 4000000
namespace Go.Proofs.Ytanhmeedgophcaa
open Lf
def TYL : List (Nat × Lf.TI) := [
  (1, ⟨.func, 1, 8, .one (.nilf)⟩),
  (2, ⟨.int .i64, 1, 8, .one (.int .i64 0)⟩),
  (3, ⟨.int .i64, 1, 8, .one (.int .i64 0)⟩),
  (4, ⟨.bool, 1, 1, .one (.bool false)⟩),
  (5, ⟨.int .u8, 1, 1, .one (.int .u8 0)⟩),
  (6, ⟨.int .u8, 1, 1, .one (.int .u8 0)⟩),
  (7, ⟨.struct [(0, 2), (1, 3), (2, 4), (3, 6)], 4, 24, .agg [.int .i64 0, .int .i64 0, .bool false, .int .u8 0]⟩),
  (8, ⟨.struct [(0, 2), (1, 3), (2, 4), (3, 6)], 4, 24, .agg [.int .i64 0, .int .i64 0, .bool false, .int .u8 0]⟩),
  (9, ⟨.string, 1, 16, .one (.str [])⟩),
  (10, ⟨.string, 1, 16, .one (.str [])⟩),
  (11, ⟨.string, 1, 16, .one (.str [])⟩),
  (12, ⟨.int .u64, 1, 8, .one (.int .u64 0)⟩),
  (13, ⟨.struct [(0, 9), (1, 12)], 2, 24, .agg [.str [], .int .u64 0]⟩),
  (14, ⟨.struct [(0, 9), (1, 12)], 2, 24, .agg [.str [], .int .u64 0]⟩),
  (15, ⟨.ptr 45, 1, 8, .one (.nilp)⟩),
  (16, ⟨.ptr 48, 1, 8, .one (.nilp)⟩),
  (17, ⟨.ptr 58, 1, 8, .one (.nilp)⟩),
  (18, ⟨.struct [(0, 17)], 1, 8, .agg [.nilp]⟩),
  (19, ⟨.struct [(0, 17)], 1, 8, .agg [.nilp]⟩),
  (20, ⟨.iface, 1, 16, .one (.nili)⟩),
  (21, ⟨.int .i32, 1, 4, .one (.int .i32 0)⟩),
  (22, ⟨.slice 3, 1, 24, .one (.slnil)⟩),
  (23, ⟨.slice 36, 1, 24, .one (.slnil)⟩),
  (24, ⟨.func, 1, 8, .one (.nilf)⟩),
  (25, ⟨.int .i64, 1, 8, .one (.int .i64 0)⟩),
  (27, ⟨.func, 1, 8, .one (.nilf)⟩),
  (28, ⟨.func, 1, 8, .one (.nilf)⟩),
  (29, ⟨.func, 1, 8, .one (.nilf)⟩),
  (30, ⟨.func, 1, 8, .one (.nilf)⟩),
  (31, ⟨.slice 4, 1, 24, .one (.slnil)⟩),
  (32, ⟨.func, 1, 8, .one (.nilf)⟩),
  (33, ⟨.func, 1, 8, .one (.nilf)⟩),
  (34, ⟨.func, 1, 8, .one (.nilf)⟩),
  (35, ⟨.struct [(0, 3), (1, 3), (2, 4)], 3, 24, .agg [.int .i64 0, .int .i64 0, .bool false]⟩),
  (36, ⟨.struct [(0, 3), (1, 3), (2, 4)], 3, 24, .agg [.int .i64 0, .int .i64 0, .bool false]⟩),
  (37, ⟨.func, 1, 8, .one (.nilf)⟩),
  (38, ⟨.int .u16, 1, 2, .one (.int .u16 0)⟩),
  (39, ⟨.func, 1, 8, .one (.nilf)⟩),
  (40, ⟨.func, 1, 8, .one (.nilf)⟩),
  (41, ⟨.func, 1, 8, .one (.nilf)⟩),
  (42, ⟨.func, 1, 8, .one (.nilf)⟩),
  (43, ⟨.func, 1, 8, .one (.nilf)⟩),
  (44, ⟨.struct [(0, 17), (1, 17), (2, 17), (3, 9)], 4, 40, .agg [.nilp, .nilp, .nilp, .str []]⟩),
  (45, ⟨.struct [(0, 17), (1, 17), (2, 17), (3, 9)], 4, 40, .agg [.nilp, .nilp, .nilp, .str []]⟩),
  (49, ⟨.func, 1, 8, .one (.nilf)⟩),
  (50, ⟨.int .u32, 1, 4, .one (.int .u32 0)⟩),
  (51, ⟨.int .u8, 1, 1, .one (.int .u8 0)⟩),
  (52, ⟨.int .u8, 1, 1, .one (.int .u8 0)⟩),
  (53, ⟨.func, 1, 8, .one (.nilf)⟩),
  (54, ⟨.ptr 5, 1, 8, .one (.nilp)⟩),
  (55, ⟨.int .i32, 1, 4, .one (.int .i32 0)⟩),
  (56, ⟨.int .i32, 1, 4, .one (.int .i32 0)⟩),
  (57, ⟨.struct [(0, 12), (1, 12), (2, 50), (3, 51), (4, 5), (5, 5), (6, 52), (7, 53), (8, 54), (9, 55), (10, 56)], 11, 48, .agg [.int .u64 0, .int .u64 0, .int .u32 0, .int .u8 0, .int .u8 0, .int .u8 0, .int .u8 0, .nilf, .nilp, .int .i32 0, .int .i32 0]⟩),
  (58, ⟨.struct [(0, 12), (1, 12), (2, 50), (3, 51), (4, 5), (5, 5), (6, 52), (7, 53), (8, 54), (9, 55), (10, 56)], 11, 48, .agg [.int .u64 0, .int .u64 0, .int .u32 0, .int .u8 0, .int .u8 0, .int .u8 0, .int .u8 0, .nilf, .nilp, .int .i32 0, .int .i32 0]⟩)]
def TY : Lf.TT := Lf.lk TYL
theorem TYok : Lf.TOK Try.prog TY := Lf.TOK.of_list (
  Lf.AllOK.cons (Lf.TI.ok_mk (z := .nilFunc) (Lf.TK.ok_func (by kernel_rfl)) (by kernel_rfl) (fun _ => Lf.Rel.nilf)) (
  Lf.AllOK.cons (Lf.TI.ok_mk (z := .int .i64 0) ((by kernel_rfl : Try.prog.underlying 2 = _)) (by kernel_rfl) (fun _ => Lf.Rel.int _ _)) (
  Lf.AllOK.cons (Lf.TI.ok_mk (z := .int .i64 0) ((by kernel_rfl : Try.prog.underlying 3 = _)) (by kernel_rfl) (fun _ => Lf.Rel.int _ _)) (
  Lf.AllOK.cons (Lf.TI.ok_mk (z := .bool false) ((by kernel_rfl : Try.prog.underlying 4 = _)) (by kernel_rfl) (fun _ => Lf.Rel.bool _)) (
  Lf.AllOK.cons (Lf.TI.ok_mk (z := .int .u8 0) ((by kernel_rfl : Try.prog.underlying 5 = _)) (by kernel_rfl) (fun _ => Lf.Rel.int _ _)) (
  Lf.AllOK.cons (Lf.TI.ok_mk (z := .int .u8 0) ((by kernel_rfl : Try.prog.underlying 6 = _)) (by kernel_rfl) (fun _ => Lf.Rel.int _ _)) (
  Lf.AllOK.cons (Lf.TI.ok_mk (z := .agg #[.int .i64 0, .int .i64 0, .bool false, .int .u8 0]) (Lf.TK.ok_struct (by kernel_rfl)) (by kernel_rfl) (fun _ => ⟨_, rfl, ⟨.int _ _, .int _ _, .bool _, .int _ _, trivial⟩⟩)) (
  Lf.AllOK.cons (Lf.TI.ok_mk (z := .agg #[.int .i64 0, .int .i64 0, .bool false, .int .u8 0]) (Lf.TK.ok_struct (by kernel_rfl)) (by kernel_rfl) (fun _ => ⟨_, rfl, ⟨.int _ _, .int _ _, .bool _, .int _ _, trivial⟩⟩)) (
  Lf.AllOK.cons (Lf.TI.ok_mk (z := .string ⟨#[]⟩) ((by kernel_rfl : Try.prog.underlying 9 = _)) (by kernel_rfl) (fun _ => Lf.Rel.str ⟨#[]⟩)) (
  Lf.AllOK.cons (Lf.TI.ok_mk (z := .string ⟨#[]⟩) ((by kernel_rfl : Try.prog.underlying 10 = _)) (by kernel_rfl) (fun _ => Lf.Rel.str ⟨#[]⟩)) (
  Lf.AllOK.cons (Lf.TI.ok_mk (z := .string ⟨#[]⟩) ((by kernel_rfl : Try.prog.underlying 11 = _)) (by kernel_rfl) (fun _ => Lf.Rel.str ⟨#[]⟩)) (
  Lf.AllOK.cons (Lf.TI.ok_mk (z := .int .u64 0) ((by kernel_rfl : Try.prog.underlying 12 = _)) (by kernel_rfl) (fun _ => Lf.Rel.int _ _)) (
  Lf.AllOK.cons (Lf.TI.ok_mk (z := .agg #[.string ⟨#[]⟩, .int .u64 0]) (Lf.TK.ok_struct (by kernel_rfl)) (by kernel_rfl) (fun _ => ⟨_, rfl, ⟨.str ⟨#[]⟩, .int _ _, trivial⟩⟩)) (
  Lf.AllOK.cons (Lf.TI.ok_mk (z := .agg #[.string ⟨#[]⟩, .int .u64 0]) (Lf.TK.ok_struct (by kernel_rfl)) (by kernel_rfl) (fun _ => ⟨_, rfl, ⟨.str ⟨#[]⟩, .int _ _, trivial⟩⟩)) (
  Lf.AllOK.cons (Lf.TI.ok_mk (z := .pointer none) ((by kernel_rfl : Try.prog.underlying 15 = _)) (by kernel_rfl) (fun _ => Lf.Rel.nilp)) (
  Lf.AllOK.cons (Lf.TI.ok_mk (z := .pointer none) ((by kernel_rfl : Try.prog.underlying 16 = _)) (by kernel_rfl) (fun _ => Lf.Rel.nilp)) (
  Lf.AllOK.cons (Lf.TI.ok_mk (z := .pointer none) ((by kernel_rfl : Try.prog.underlying 17 = _)) (by kernel_rfl) (fun _ => Lf.Rel.nilp)) (
  Lf.AllOK.cons (Lf.TI.ok_mk (z := .agg #[.pointer none]) (Lf.TK.ok_struct (by kernel_rfl)) (by kernel_rfl) (fun _ => ⟨_, rfl, ⟨.nilp, trivial⟩⟩)) (
  Lf.AllOK.cons (Lf.TI.ok_mk (z := .agg #[.pointer none]) (Lf.TK.ok_struct (by kernel_rfl)) (by kernel_rfl) (fun _ => ⟨_, rfl, ⟨.nilp, trivial⟩⟩)) (
  Lf.AllOK.cons (Lf.TI.ok_mk (z := .nilIface) (Lf.TK.ok_iface (by kernel_rfl)) (by kernel_rfl) (fun _ => Lf.Rel.nili)) (
  Lf.AllOK.cons (Lf.TI.ok_mk (z := .int .i32 0) ((by kernel_rfl : Try.prog.underlying 21 = _)) (by kernel_rfl) (fun _ => Lf.Rel.int _ _)) (
  Lf.AllOK.cons (Lf.TI.ok_mk (z := .slice none 0 0) ((by kernel_rfl : Try.prog.underlying 22 = _)) (by kernel_rfl) (fun _ => Lf.Rel.slnil)) (
  Lf.AllOK.cons (Lf.TI.ok_mk (z := .slice none 0 0) ((by kernel_rfl : Try.prog.underlying 23 = _)) (by kernel_rfl) (fun _ => Lf.Rel.slnil)) (
  Lf.AllOK.cons (Lf.TI.ok_mk (z := .nilFunc) (Lf.TK.ok_func (by kernel_rfl)) (by kernel_rfl) (fun _ => Lf.Rel.nilf)) (
  Lf.AllOK.cons (Lf.TI.ok_mk (z := .int .i64 0) ((by kernel_rfl : Try.prog.underlying 25 = _)) (by kernel_rfl) (fun _ => Lf.Rel.int _ _)) (
  Lf.AllOK.cons (Lf.TI.ok_mk (z := .nilFunc) (Lf.TK.ok_func (by kernel_rfl)) (by kernel_rfl) (fun _ => Lf.Rel.nilf)) (
  Lf.AllOK.cons (Lf.TI.ok_mk (z := .nilFunc) (Lf.TK.ok_func (by kernel_rfl)) (by kernel_rfl) (fun _ => Lf.Rel.nilf)) (
  Lf.AllOK.cons (Lf.TI.ok_mk (z := .nilFunc) (Lf.TK.ok_func (by kernel_rfl)) (by kernel_rfl) (fun _ => Lf.Rel.nilf)) (
  Lf.AllOK.cons (Lf.TI.ok_mk (z := .nilFunc) (Lf.TK.ok_func (by kernel_rfl)) (by kernel_rfl) (fun _ => Lf.Rel.nilf)) (
  Lf.AllOK.cons (Lf.TI.ok_mk (z := .slice none 0 0) ((by kernel_rfl : Try.prog.underlying 31 = _)) (by kernel_rfl) (fun _ => Lf.Rel.slnil)) (
  Lf.AllOK.cons (Lf.TI.ok_mk (z := .nilFunc) (Lf.TK.ok_func (by kernel_rfl)) (by kernel_rfl) (fun _ => Lf.Rel.nilf)) (
  Lf.AllOK.cons (Lf.TI.ok_mk (z := .nilFunc) (Lf.TK.ok_func (by kernel_rfl)) (by kernel_rfl) (fun _ => Lf.Rel.nilf)) (
  Lf.AllOK.cons (Lf.TI.ok_mk (z := .nilFunc) (Lf.TK.ok_func (by kernel_rfl)) (by kernel_rfl) (fun _ => Lf.Rel.nilf)) (
  Lf.AllOK.cons (Lf.TI.ok_mk (z := .agg #[.int .i64 0, .int .i64 0, .bool false]) (Lf.TK.ok_struct (by kernel_rfl)) (by kernel_rfl) (fun _ => ⟨_, rfl, ⟨.int _ _, .int _ _, .bool _, trivial⟩⟩)) (
  Lf.AllOK.cons (Lf.TI.ok_mk (z := .agg #[.int .i64 0, .int .i64 0, .bool false]) (Lf.TK.ok_struct (by kernel_rfl)) (by kernel_rfl) (fun _ => ⟨_, rfl, ⟨.int _ _, .int _ _, .bool _, trivial⟩⟩)) (
  Lf.AllOK.cons (Lf.TI.ok_mk (z := .nilFunc) (Lf.TK.ok_func (by kernel_rfl)) (by kernel_rfl) (fun _ => Lf.Rel.nilf)) (
  Lf.AllOK.cons (Lf.TI.ok_mk (z := .int .u16 0) ((by kernel_rfl : Try.prog.underlying 38 = _)) (by kernel_rfl) (fun _ => Lf.Rel.int _ _)) (
  Lf.AllOK.cons (Lf.TI.ok_mk (z := .nilFunc) (Lf.TK.ok_func (by kernel_rfl)) (by kernel_rfl) (fun _ => Lf.Rel.nilf)) (
  Lf.AllOK.cons (Lf.TI.ok_mk (z := .nilFunc) (Lf.TK.ok_func (by kernel_rfl)) (by kernel_rfl) (fun _ => Lf.Rel.nilf)) (
  Lf.AllOK.cons (Lf.TI.ok_mk (z := .nilFunc) (Lf.TK.ok_func (by kernel_rfl)) (by kernel_rfl) (fun _ => Lf.Rel.nilf)) (
  Lf.AllOK.cons (Lf.TI.ok_mk (z := .nilFunc) (Lf.TK.ok_func (by kernel_rfl)) (by kernel_rfl) (fun _ => Lf.Rel.nilf)) (
  Lf.AllOK.cons (Lf.TI.ok_mk (z := .nilFunc) (Lf.TK.ok_func (by kernel_rfl)) (by kernel_rfl) (fun _ => Lf.Rel.nilf)) (
  Lf.AllOK.cons (Lf.TI.ok_mk (z := .agg #[.pointer none, .pointer none, .pointer none, .string ⟨#[]⟩]) (Lf.TK.ok_struct (by kernel_rfl)) (by kernel_rfl) (fun _ => ⟨_, rfl, ⟨.nilp, .nilp, .nilp, .str ⟨#[]⟩, trivial⟩⟩)) (
  Lf.AllOK.cons (Lf.TI.ok_mk (z := .agg #[.pointer none, .pointer none, .pointer none, .string ⟨#[]⟩]) (Lf.TK.ok_struct (by kernel_rfl)) (by kernel_rfl) (fun _ => ⟨_, rfl, ⟨.nilp, .nilp, .nilp, .str ⟨#[]⟩, trivial⟩⟩)) (
  Lf.AllOK.cons (Lf.TI.ok_mk (z := .nilFunc) (Lf.TK.ok_func (by kernel_rfl)) (by kernel_rfl) (fun _ => Lf.Rel.nilf)) (
  Lf.AllOK.cons (Lf.TI.ok_mk (z := .int .u32 0) ((by kernel_rfl : Try.prog.underlying 50 = _)) (by kernel_rfl) (fun _ => Lf.Rel.int _ _)) (
  Lf.AllOK.cons (Lf.TI.ok_mk (z := .int .u8 0) ((by kernel_rfl : Try.prog.underlying 51 = _)) (by kernel_rfl) (fun _ => Lf.Rel.int _ _)) (
  Lf.AllOK.cons (Lf.TI.ok_mk (z := .int .u8 0) ((by kernel_rfl : Try.prog.underlying 52 = _)) (by kernel_rfl) (fun _ => Lf.Rel.int _ _)) (
  Lf.AllOK.cons (Lf.TI.ok_mk (z := .nilFunc) (Lf.TK.ok_func (by kernel_rfl)) (by kernel_rfl) (fun _ => Lf.Rel.nilf)) (
  Lf.AllOK.cons (Lf.TI.ok_mk (z := .pointer none) ((by kernel_rfl : Try.prog.underlying 54 = _)) (by kernel_rfl) (fun _ => Lf.Rel.nilp)) (
  Lf.AllOK.cons (Lf.TI.ok_mk (z := .int .i32 0) ((by kernel_rfl : Try.prog.underlying 55 = _)) (by kernel_rfl) (fun _ => Lf.Rel.int _ _)) (
  Lf.AllOK.cons (Lf.TI.ok_mk (z := .int .i32 0) ((by kernel_rfl : Try.prog.underlying 56 = _)) (by kernel_rfl) (fun _ => Lf.Rel.int _ _)) (
  Lf.AllOK.cons (Lf.TI.ok_mk (z := .agg #[.int .u64 0, .int .u64 0, .int .u32 0, .int .u8 0, .int .u8 0, .int .u8 0, .int .u8 0, .nilFunc, .pointer none, .int .i32 0, .int .i32 0]) (Lf.TK.ok_struct (by kernel_rfl)) (by kernel_rfl) (fun _ => ⟨_, rfl, ⟨.int _ _, .int _ _, .int _ _, .int _ _, .int _ _, .int _ _, .int _ _, .nilf, .nilp, .int _ _, .int _ _, trivial⟩⟩)) (
  Lf.AllOK.cons (Lf.TI.ok_mk (z := .agg #[.int .u64 0, .int .u64 0, .int .u32 0, .int .u8 0, .int .u8 0, .int .u8 0, .int .u8 0, .nilFunc, .pointer none, .int .i32 0, .int .i32 0]) (Lf.TK.ok_struct (by kernel_rfl)) (by kernel_rfl) (fun _ => ⟨_, rfl, ⟨.int _ _, .int _ _, .int _ _, .int _ _, .int _ _, .int _ _, .int _ _, .nilf, .nilp, .int _ _, .int _ _, trivial⟩⟩)) (
  Lf.AllOK.nil)))))))))))))))))))))))))))))))))))))))))))))))))))))))
theorem mixed : Try.prog.follows .mixedOrders = true := by kernel_rfl
end Go.Proofs.Ytanhmeedgophcaa

