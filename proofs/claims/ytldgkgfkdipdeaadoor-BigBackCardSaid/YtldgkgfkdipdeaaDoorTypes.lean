/-
  The types of the seat, as the value-level logic takes them, each held against the program.
-/
import Derived.Test.YtldgkgfkdipdeaaDoorRows
import Derived.Test.YtldgkgfkdipdeaaDoorLfAny
import Derived.KernelRfl
set_option maxRecDepth 100000
set_option maxHeartbeats 4000000
namespace Go.Proofs.YtldgkgfkdipdeaaDoor
open Lf
def TYL : List (Nat × Lf.TI) := [
  (1, ⟨.func, 1, 8, .one (.nilf)⟩),
  (2, ⟨.int .i64, 1, 8, .one (.int .i64 0)⟩),
  (3, ⟨.int .i64, 1, 8, .one (.int .i64 0)⟩),
  (4, ⟨.bool, 1, 1, .one (.bool false)⟩),
  (5, ⟨.int .u8, 1, 1, .one (.int .u8 0)⟩),
  (6, ⟨.int .u8, 1, 1, .one (.int .u8 0)⟩),
  (7, ⟨.struct [(0, 2), (1, 3), (2, 4), (3, 6)], 4, 24, .agg [.int .i64 0, .int .i64 0, .bool false, .int .u8 0]⟩),
  (8, ⟨.struct [(0, 2), (1, 3), (2, 4), (3, 6)], 4, 24, .agg [.int .i64 0, .int .i64 0, .bool false, .int .u8 0]⟩),
  (9, ⟨.string, 1, 16, .one (.str [])⟩),
  (10, ⟨.string, 1, 16, .one (.str [])⟩),
  (11, ⟨.string, 1, 16, .one (.str [])⟩),
  (12, ⟨.int .u64, 1, 8, .one (.int .u64 0)⟩),
  (13, ⟨.struct [(0, 9), (1, 12)], 2, 24, .agg [.str [], .int .u64 0]⟩),
  (14, ⟨.struct [(0, 9), (1, 12)], 2, 24, .agg [.str [], .int .u64 0]⟩),
  (15, ⟨.ptr 126, 1, 8, .one (.nilp)⟩),
  (16, ⟨.ptr 129, 1, 8, .one (.nilp)⟩),
  (17, ⟨.ptr 136, 1, 8, .one (.nilp)⟩),
  (18, ⟨.struct [(0, 17)], 1, 8, .agg [.nilp]⟩),
  (19, ⟨.struct [(0, 17)], 1, 8, .agg [.nilp]⟩),
  (20, ⟨.iface, 1, 16, .one (.nili)⟩),
  (21, ⟨.int .i32, 1, 4, .one (.int .i32 0)⟩),
  (22, ⟨.slice 3, 1, 24, .one (.slnil)⟩),
  (23, ⟨.struct [(0, 3), (1, 22)], 2, 32, .agg [.int .i64 0, .slnil]⟩),
  (24, ⟨.struct [(0, 3), (1, 22)], 2, 32, .agg [.int .i64 0, .slnil]⟩),
  (25, ⟨.func, 1, 8, .one (.nilf)⟩),
  (26, ⟨.func, 1, 8, .one (.nilf)⟩),
  (27, ⟨.func, 1, 8, .one (.nilf)⟩),
  (28, ⟨.int .i64, 1, 8, .one (.int .i64 0)⟩),
  (30, ⟨.func, 1, 8, .one (.nilf)⟩),
  (31, ⟨.func, 1, 8, .one (.nilf)⟩),
  (32, ⟨.func, 1, 8, .one (.nilf)⟩),
  (34, ⟨.func, 1, 8, .one (.nilf)⟩),
  (35, ⟨.func, 1, 8, .one (.nilf)⟩),
  (36, ⟨.func, 1, 8, .one (.nilf)⟩),
  (37, ⟨.func, 1, 8, .one (.nilf)⟩),
  (38, ⟨.func, 1, 8, .one (.nilf)⟩),
  (39, ⟨.func, 1, 8, .one (.nilf)⟩),
  (40, ⟨.func, 1, 8, .one (.nilf)⟩),
  (42, ⟨.func, 1, 8, .one (.nilf)⟩),
  (43, ⟨.func, 1, 8, .one (.nilf)⟩),
  (44, ⟨.func, 1, 8, .one (.nilf)⟩),
  (45, ⟨.func, 1, 8, .one (.nilf)⟩),
  (46, ⟨.func, 1, 8, .one (.nilf)⟩),
  (48, ⟨.func, 1, 8, .one (.nilf)⟩),
  (49, ⟨.func, 1, 8, .one (.nilf)⟩),
  (50, ⟨.func, 1, 8, .one (.nilf)⟩),
  (51, ⟨.func, 1, 8, .one (.nilf)⟩),
  (53, ⟨.func, 1, 8, .one (.nilf)⟩),
  (54, ⟨.func, 1, 8, .one (.nilf)⟩),
  (55, ⟨.slice 5, 1, 24, .one (.slnil)⟩),
  (56, ⟨.slice 9, 1, 24, .one (.slnil)⟩),
  (58, ⟨.func, 1, 8, .one (.nilf)⟩),
  (59, ⟨.func, 1, 8, .one (.nilf)⟩),
  (60, ⟨.func, 1, 8, .one (.nilf)⟩),
  (61, ⟨.func, 1, 8, .one (.nilf)⟩),
  (62, ⟨.func, 1, 8, .one (.nilf)⟩),
  (63, ⟨.int .u64, 1, 8, .one (.int .u64 0)⟩),
  (64, ⟨.int .u64, 1, 8, .one (.int .u64 0)⟩),
  (65, ⟨.func, 1, 8, .one (.nilf)⟩),
  (66, ⟨.func, 1, 8, .one (.nilf)⟩),
  (67, ⟨.func, 1, 8, .one (.nilf)⟩),
  (68, ⟨.func, 1, 8, .one (.nilf)⟩),
  (69, ⟨.func, 1, 8, .one (.nilf)⟩),
  (73, ⟨.func, 1, 8, .one (.nilf)⟩),
  (74, ⟨.func, 1, 8, .one (.nilf)⟩),
  (75, ⟨.ptr 71, 1, 8, .one (.nilp)⟩),
  (77, ⟨.func, 1, 8, .one (.nilf)⟩),
  (78, ⟨.func, 1, 8, .one (.nilf)⟩),
  (79, ⟨.ptr 81, 1, 8, .one (.nilp)⟩),
  (80, ⟨.struct [(0, 79), (1, 55)], 2, 32, .agg [.nilp, .slnil]⟩),
  (81, ⟨.struct [(0, 79), (1, 55)], 2, 32, .agg [.nilp, .slnil]⟩),
  (82, ⟨.func, 1, 8, .one (.nilf)⟩),
  (83, ⟨.iface, 1, 16, .one (.nili)⟩),
  (84, ⟨.iface, 1, 16, .one (.nili)⟩),
  (86, ⟨.func, 1, 8, .one (.nilf)⟩),
  (87, ⟨.func, 1, 8, .one (.nilf)⟩),
  (88, ⟨.func, 1, 8, .one (.nilf)⟩),
  (89, ⟨.func, 1, 8, .one (.nilf)⟩),
  (90, ⟨.func, 1, 8, .one (.nilf)⟩),
  (92, ⟨.func, 1, 8, .one (.nilf)⟩),
  (93, ⟨.func, 1, 8, .one (.nilf)⟩),
  (94, ⟨.func, 1, 8, .one (.nilf)⟩),
  (95, ⟨.int .u32, 1, 4, .one (.int .u32 0)⟩),
  (97, ⟨.func, 1, 8, .one (.nilf)⟩),
  (99, ⟨.func, 1, 8, .one (.nilf)⟩),
  (100, ⟨.ptr 5, 1, 8, .one (.nilp)⟩),
  (101, ⟨.func, 1, 8, .one (.nilf)⟩),
  (102, ⟨.array 24 5, 24, 24, .agg [.int .u8 0, .int .u8 0, .int .u8 0, .int .u8 0, .int .u8 0, .int .u8 0, .int .u8 0, .int .u8 0, .int .u8 0, .int .u8 0, .int .u8 0, .int .u8 0, .int .u8 0, .int .u8 0, .int .u8 0, .int .u8 0, .int .u8 0, .int .u8 0, .int .u8 0, .int .u8 0, .int .u8 0, .int .u8 0, .int .u8 0, .int .u8 0]⟩),
  (103, ⟨.func, 1, 8, .one (.nilf)⟩),
  (104, ⟨.func, 1, 8, .one (.nilf)⟩),
  (106, ⟨.func, 1, 8, .one (.nilf)⟩),
  (108, ⟨.func, 1, 8, .one (.nilf)⟩),
  (109, ⟨.func, 1, 8, .one (.nilf)⟩),
  (111, ⟨.struct [(0, 5), (1, 5)], 2, 2, .agg [.int .u8 0, .int .u8 0]⟩),
  (112, ⟨.struct [(0, 5), (1, 5)], 2, 2, .agg [.int .u8 0, .int .u8 0]⟩),
  (113, ⟨.array 16 112, 32, 32, .agg [.int .u8 0, .int .u8 0, .int .u8 0, .int .u8 0, .int .u8 0, .int .u8 0, .int .u8 0, .int .u8 0, .int .u8 0, .int .u8 0, .int .u8 0, .int .u8 0, .int .u8 0, .int .u8 0, .int .u8 0, .int .u8 0, .int .u8 0, .int .u8 0, .int .u8 0, .int .u8 0, .int .u8 0, .int .u8 0, .int .u8 0, .int .u8 0, .int .u8 0, .int .u8 0, .int .u8 0, .int .u8 0, .int .u8 0, .int .u8 0, .int .u8 0, .int .u8 0]⟩),
  (114, ⟨.func, 1, 8, .one (.nilf)⟩),
  (115, ⟨.func, 1, 8, .one (.nilf)⟩),
  (116, ⟨.func, 1, 8, .one (.nilf)⟩),
  (117, ⟨.func, 1, 8, .one (.nilf)⟩),
  (118, ⟨.func, 1, 8, .one (.nilf)⟩),
  (119, ⟨.array 20 63, 20, 160, .agg [.int .u64 0, .int .u64 0, .int .u64 0, .int .u64 0, .int .u64 0, .int .u64 0, .int .u64 0, .int .u64 0, .int .u64 0, .int .u64 0, .int .u64 0, .int .u64 0, .int .u64 0, .int .u64 0, .int .u64 0, .int .u64 0, .int .u64 0, .int .u64 0, .int .u64 0, .int .u64 0]⟩),
  (121, ⟨.func, 1, 8, .one (.nilf)⟩),
  (122, ⟨.func, 1, 8, .one (.nilf)⟩),
  (123, ⟨.array 32 5, 32, 32, .agg [.int .u8 0, .int .u8 0, .int .u8 0, .int .u8 0, .int .u8 0, .int .u8 0, .int .u8 0, .int .u8 0, .int .u8 0, .int .u8 0, .int .u8 0, .int .u8 0, .int .u8 0, .int .u8 0, .int .u8 0, .int .u8 0, .int .u8 0, .int .u8 0, .int .u8 0, .int .u8 0, .int .u8 0, .int .u8 0, .int .u8 0, .int .u8 0, .int .u8 0, .int .u8 0, .int .u8 0, .int .u8 0, .int .u8 0, .int .u8 0, .int .u8 0, .int .u8 0]⟩),
  (124, ⟨.array 64 5, 64, 64, .agg [.int .u8 0, .int .u8 0, .int .u8 0, .int .u8 0, .int .u8 0, .int .u8 0, .int .u8 0, .int .u8 0, .int .u8 0, .int .u8 0, .int .u8 0, .int .u8 0, .int .u8 0, .int .u8 0, .int .u8 0, .int .u8 0, .int .u8 0, .int .u8 0, .int .u8 0, .int .u8 0, .int .u8 0, .int .u8 0, .int .u8 0, .int .u8 0, .int .u8 0, .int .u8 0, .int .u8 0, .int .u8 0, .int .u8 0, .int .u8 0, .int .u8 0, .int .u8 0, .int .u8 0, .int .u8 0, .int .u8 0, .int .u8 0, .int .u8 0, .int .u8 0, .int .u8 0, .int .u8 0, .int .u8 0, .int .u8 0, .int .u8 0, .int .u8 0, .int .u8 0, .int .u8 0, .int .u8 0, .int .u8 0, .int .u8 0, .int .u8 0, .int .u8 0, .int .u8 0, .int .u8 0, .int .u8 0, .int .u8 0, .int .u8 0, .int .u8 0, .int .u8 0, .int .u8 0, .int .u8 0, .int .u8 0, .int .u8 0, .int .u8 0, .int .u8 0]⟩),
  (125, ⟨.struct [(0, 17), (1, 17), (2, 17), (3, 9)], 4, 40, .agg [.nilp, .nilp, .nilp, .str []]⟩),
  (126, ⟨.struct [(0, 17), (1, 17), (2, 17), (3, 9)], 4, 40, .agg [.nilp, .nilp, .nilp, .str []]⟩),
  (130, ⟨.int .u8, 1, 1, .one (.int .u8 0)⟩),
  (131, ⟨.int .u8, 1, 1, .one (.int .u8 0)⟩),
  (132, ⟨.func, 1, 8, .one (.nilf)⟩),
  (133, ⟨.int .i32, 1, 4, .one (.int .i32 0)⟩),
  (134, ⟨.int .i32, 1, 4, .one (.int .i32 0)⟩),
  (135, ⟨.struct [(0, 12), (1, 12), (2, 95), (3, 130), (4, 5), (5, 5), (6, 131), (7, 132), (8, 100), (9, 133), (10, 134)], 11, 48, .agg [.int .u64 0, .int .u64 0, .int .u32 0, .int .u8 0, .int .u8 0, .int .u8 0, .int .u8 0, .nilf, .nilp, .int .i32 0, .int .i32 0]⟩),
  (136, ⟨.struct [(0, 12), (1, 12), (2, 95), (3, 130), (4, 5), (5, 5), (6, 131), (7, 132), (8, 100), (9, 133), (10, 134)], 11, 48, .agg [.int .u64 0, .int .u64 0, .int .u32 0, .int .u8 0, .int .u8 0, .int .u8 0, .int .u8 0, .nilf, .nilp, .int .i32 0, .int .i32 0]⟩)]
def TY : Lf.TT := Lf.lk TYL
theorem TYok : Lf.TOK Tryd.prog TY := Lf.TOK.of_list (
  Lf.AllOK.cons (Lf.TI.ok_mk (z := .nilFunc) (Lf.TK.ok_func (by kernel_rfl)) (by kernel_rfl) (fun _ => Lf.Rel.nilf)) (
  Lf.AllOK.cons (Lf.TI.ok_mk (z := .int .i64 0) ((by kernel_rfl : Tryd.prog.underlying 2 = _)) (by kernel_rfl) (fun _ => Lf.Rel.int _ _)) (
  Lf.AllOK.cons (Lf.TI.ok_mk (z := .int .i64 0) ((by kernel_rfl : Tryd.prog.underlying 3 = _)) (by kernel_rfl) (fun _ => Lf.Rel.int _ _)) (
  Lf.AllOK.cons (Lf.TI.ok_mk (z := .bool false) ((by kernel_rfl : Tryd.prog.underlying 4 = _)) (by kernel_rfl) (fun _ => Lf.Rel.bool _)) (
  Lf.AllOK.cons (Lf.TI.ok_mk (z := .int .u8 0) ((by kernel_rfl : Tryd.prog.underlying 5 = _)) (by kernel_rfl) (fun _ => Lf.Rel.int _ _)) (
  Lf.AllOK.cons (Lf.TI.ok_mk (z := .int .u8 0) ((by kernel_rfl : Tryd.prog.underlying 6 = _)) (by kernel_rfl) (fun _ => Lf.Rel.int _ _)) (
  Lf.AllOK.cons (Lf.TI.ok_mk (z := .agg #[.int .i64 0, .int .i64 0, .bool false, .int .u8 0]) (Lf.TK.ok_struct (by kernel_rfl)) (by kernel_rfl) (fun _ => ⟨_, rfl, ⟨.int _ _, .int _ _, .bool _, .int _ _, trivial⟩⟩)) (
  Lf.AllOK.cons (Lf.TI.ok_mk (z := .agg #[.int .i64 0, .int .i64 0, .bool false, .int .u8 0]) (Lf.TK.ok_struct (by kernel_rfl)) (by kernel_rfl) (fun _ => ⟨_, rfl, ⟨.int _ _, .int _ _, .bool _, .int _ _, trivial⟩⟩)) (
  Lf.AllOK.cons (Lf.TI.ok_mk (z := .string ⟨#[]⟩) ((by kernel_rfl : Tryd.prog.underlying 9 = _)) (by kernel_rfl) (fun _ => Lf.Rel.str ⟨#[]⟩)) (
  Lf.AllOK.cons (Lf.TI.ok_mk (z := .string ⟨#[]⟩) ((by kernel_rfl : Tryd.prog.underlying 10 = _)) (by kernel_rfl) (fun _ => Lf.Rel.str ⟨#[]⟩)) (
  Lf.AllOK.cons (Lf.TI.ok_mk (z := .string ⟨#[]⟩) ((by kernel_rfl : Tryd.prog.underlying 11 = _)) (by kernel_rfl) (fun _ => Lf.Rel.str ⟨#[]⟩)) (
  Lf.AllOK.cons (Lf.TI.ok_mk (z := .int .u64 0) ((by kernel_rfl : Tryd.prog.underlying 12 = _)) (by kernel_rfl) (fun _ => Lf.Rel.int _ _)) (
  Lf.AllOK.cons (Lf.TI.ok_mk (z := .agg #[.string ⟨#[]⟩, .int .u64 0]) (Lf.TK.ok_struct (by kernel_rfl)) (by kernel_rfl) (fun _ => ⟨_, rfl, ⟨.str ⟨#[]⟩, .int _ _, trivial⟩⟩)) (
  Lf.AllOK.cons (Lf.TI.ok_mk (z := .agg #[.string ⟨#[]⟩, .int .u64 0]) (Lf.TK.ok_struct (by kernel_rfl)) (by kernel_rfl) (fun _ => ⟨_, rfl, ⟨.str ⟨#[]⟩, .int _ _, trivial⟩⟩)) (
  Lf.AllOK.cons (Lf.TI.ok_mk (z := .pointer none) ((by kernel_rfl : Tryd.prog.underlying 15 = _)) (by kernel_rfl) (fun _ => Lf.Rel.nilp)) (
  Lf.AllOK.cons (Lf.TI.ok_mk (z := .pointer none) ((by kernel_rfl : Tryd.prog.underlying 16 = _)) (by kernel_rfl) (fun _ => Lf.Rel.nilp)) (
  Lf.AllOK.cons (Lf.TI.ok_mk (z := .pointer none) ((by kernel_rfl : Tryd.prog.underlying 17 = _)) (by kernel_rfl) (fun _ => Lf.Rel.nilp)) (
  Lf.AllOK.cons (Lf.TI.ok_mk (z := .agg #[.pointer none]) (Lf.TK.ok_struct (by kernel_rfl)) (by kernel_rfl) (fun _ => ⟨_, rfl, ⟨.nilp, trivial⟩⟩)) (
  Lf.AllOK.cons (Lf.TI.ok_mk (z := .agg #[.pointer none]) (Lf.TK.ok_struct (by kernel_rfl)) (by kernel_rfl) (fun _ => ⟨_, rfl, ⟨.nilp, trivial⟩⟩)) (
  Lf.AllOK.cons (Lf.TI.ok_mk (z := .nilIface) (Lf.TK.ok_iface (by kernel_rfl)) (by kernel_rfl) (fun _ => Lf.Rel.nili)) (
  Lf.AllOK.cons (Lf.TI.ok_mk (z := .int .i32 0) ((by kernel_rfl : Tryd.prog.underlying 21 = _)) (by kernel_rfl) (fun _ => Lf.Rel.int _ _)) (
  Lf.AllOK.cons (Lf.TI.ok_mk (z := .slice none 0 0) ((by kernel_rfl : Tryd.prog.underlying 22 = _)) (by kernel_rfl) (fun _ => Lf.Rel.slnil)) (
  Lf.AllOK.cons (Lf.TI.ok_mk (z := .agg #[.int .i64 0, .slice none 0 0]) (Lf.TK.ok_struct (by kernel_rfl)) (by kernel_rfl) (fun _ => ⟨_, rfl, ⟨.int _ _, .slnil, trivial⟩⟩)) (
  Lf.AllOK.cons (Lf.TI.ok_mk (z := .agg #[.int .i64 0, .slice none 0 0]) (Lf.TK.ok_struct (by kernel_rfl)) (by kernel_rfl) (fun _ => ⟨_, rfl, ⟨.int _ _, .slnil, trivial⟩⟩)) (
  Lf.AllOK.cons (Lf.TI.ok_mk (z := .nilFunc) (Lf.TK.ok_func (by kernel_rfl)) (by kernel_rfl) (fun _ => Lf.Rel.nilf)) (
  Lf.AllOK.cons (Lf.TI.ok_mk (z := .nilFunc) (Lf.TK.ok_func (by kernel_rfl)) (by kernel_rfl) (fun _ => Lf.Rel.nilf)) (
  Lf.AllOK.cons (Lf.TI.ok_mk (z := .nilFunc) (Lf.TK.ok_func (by kernel_rfl)) (by kernel_rfl) (fun _ => Lf.Rel.nilf)) (
  Lf.AllOK.cons (Lf.TI.ok_mk (z := .int .i64 0) ((by kernel_rfl : Tryd.prog.underlying 28 = _)) (by kernel_rfl) (fun _ => Lf.Rel.int _ _)) (
  Lf.AllOK.cons (Lf.TI.ok_mk (z := .nilFunc) (Lf.TK.ok_func (by kernel_rfl)) (by kernel_rfl) (fun _ => Lf.Rel.nilf)) (
  Lf.AllOK.cons (Lf.TI.ok_mk (z := .nilFunc) (Lf.TK.ok_func (by kernel_rfl)) (by kernel_rfl) (fun _ => Lf.Rel.nilf)) (
  Lf.AllOK.cons (Lf.TI.ok_mk (z := .nilFunc) (Lf.TK.ok_func (by kernel_rfl)) (by kernel_rfl) (fun _ => Lf.Rel.nilf)) (
  Lf.AllOK.cons (Lf.TI.ok_mk (z := .nilFunc) (Lf.TK.ok_func (by kernel_rfl)) (by kernel_rfl) (fun _ => Lf.Rel.nilf)) (
  Lf.AllOK.cons (Lf.TI.ok_mk (z := .nilFunc) (Lf.TK.ok_func (by kernel_rfl)) (by kernel_rfl) (fun _ => Lf.Rel.nilf)) (
  Lf.AllOK.cons (Lf.TI.ok_mk (z := .nilFunc) (Lf.TK.ok_func (by kernel_rfl)) (by kernel_rfl) (fun _ => Lf.Rel.nilf)) (
  Lf.AllOK.cons (Lf.TI.ok_mk (z := .nilFunc) (Lf.TK.ok_func (by kernel_rfl)) (by kernel_rfl) (fun _ => Lf.Rel.nilf)) (
  Lf.AllOK.cons (Lf.TI.ok_mk (z := .nilFunc) (Lf.TK.ok_func (by kernel_rfl)) (by kernel_rfl) (fun _ => Lf.Rel.nilf)) (
  Lf.AllOK.cons (Lf.TI.ok_mk (z := .nilFunc) (Lf.TK.ok_func (by kernel_rfl)) (by kernel_rfl) (fun _ => Lf.Rel.nilf)) (
  Lf.AllOK.cons (Lf.TI.ok_mk (z := .nilFunc) (Lf.TK.ok_func (by kernel_rfl)) (by kernel_rfl) (fun _ => Lf.Rel.nilf)) (
  Lf.AllOK.cons (Lf.TI.ok_mk (z := .nilFunc) (Lf.TK.ok_func (by kernel_rfl)) (by kernel_rfl) (fun _ => Lf.Rel.nilf)) (
  Lf.AllOK.cons (Lf.TI.ok_mk (z := .nilFunc) (Lf.TK.ok_func (by kernel_rfl)) (by kernel_rfl) (fun _ => Lf.Rel.nilf)) (
  Lf.AllOK.cons (Lf.TI.ok_mk (z := .nilFunc) (Lf.TK.ok_func (by kernel_rfl)) (by kernel_rfl) (fun _ => Lf.Rel.nilf)) (
  Lf.AllOK.cons (Lf.TI.ok_mk (z := .nilFunc) (Lf.TK.ok_func (by kernel_rfl)) (by kernel_rfl) (fun _ => Lf.Rel.nilf)) (
  Lf.AllOK.cons (Lf.TI.ok_mk (z := .nilFunc) (Lf.TK.ok_func (by kernel_rfl)) (by kernel_rfl) (fun _ => Lf.Rel.nilf)) (
  Lf.AllOK.cons (Lf.TI.ok_mk (z := .nilFunc) (Lf.TK.ok_func (by kernel_rfl)) (by kernel_rfl) (fun _ => Lf.Rel.nilf)) (
  Lf.AllOK.cons (Lf.TI.ok_mk (z := .nilFunc) (Lf.TK.ok_func (by kernel_rfl)) (by kernel_rfl) (fun _ => Lf.Rel.nilf)) (
  Lf.AllOK.cons (Lf.TI.ok_mk (z := .nilFunc) (Lf.TK.ok_func (by kernel_rfl)) (by kernel_rfl) (fun _ => Lf.Rel.nilf)) (
  Lf.AllOK.cons (Lf.TI.ok_mk (z := .nilFunc) (Lf.TK.ok_func (by kernel_rfl)) (by kernel_rfl) (fun _ => Lf.Rel.nilf)) (
  Lf.AllOK.cons (Lf.TI.ok_mk (z := .nilFunc) (Lf.TK.ok_func (by kernel_rfl)) (by kernel_rfl) (fun _ => Lf.Rel.nilf)) (
  Lf.AllOK.cons (Lf.TI.ok_mk (z := .nilFunc) (Lf.TK.ok_func (by kernel_rfl)) (by kernel_rfl) (fun _ => Lf.Rel.nilf)) (
  Lf.AllOK.cons (Lf.TI.ok_mk (z := .slice none 0 0) ((by kernel_rfl : Tryd.prog.underlying 55 = _)) (by kernel_rfl) (fun _ => Lf.Rel.slnil)) (
  Lf.AllOK.cons (Lf.TI.ok_mk (z := .slice none 0 0) ((by kernel_rfl : Tryd.prog.underlying 56 = _)) (by kernel_rfl) (fun _ => Lf.Rel.slnil)) (
  Lf.AllOK.cons (Lf.TI.ok_mk (z := .nilFunc) (Lf.TK.ok_func (by kernel_rfl)) (by kernel_rfl) (fun _ => Lf.Rel.nilf)) (
  Lf.AllOK.cons (Lf.TI.ok_mk (z := .nilFunc) (Lf.TK.ok_func (by kernel_rfl)) (by kernel_rfl) (fun _ => Lf.Rel.nilf)) (
  Lf.AllOK.cons (Lf.TI.ok_mk (z := .nilFunc) (Lf.TK.ok_func (by kernel_rfl)) (by kernel_rfl) (fun _ => Lf.Rel.nilf)) (
  Lf.AllOK.cons (Lf.TI.ok_mk (z := .nilFunc) (Lf.TK.ok_func (by kernel_rfl)) (by kernel_rfl) (fun _ => Lf.Rel.nilf)) (
  Lf.AllOK.cons (Lf.TI.ok_mk (z := .nilFunc) (Lf.TK.ok_func (by kernel_rfl)) (by kernel_rfl) (fun _ => Lf.Rel.nilf)) (
  Lf.AllOK.cons (Lf.TI.ok_mk (z := .int .u64 0) ((by kernel_rfl : Tryd.prog.underlying 63 = _)) (by kernel_rfl) (fun _ => Lf.Rel.int _ _)) (
  Lf.AllOK.cons (Lf.TI.ok_mk (z := .int .u64 0) ((by kernel_rfl : Tryd.prog.underlying 64 = _)) (by kernel_rfl) (fun _ => Lf.Rel.int _ _)) (
  Lf.AllOK.cons (Lf.TI.ok_mk (z := .nilFunc) (Lf.TK.ok_func (by kernel_rfl)) (by kernel_rfl) (fun _ => Lf.Rel.nilf)) (
  Lf.AllOK.cons (Lf.TI.ok_mk (z := .nilFunc) (Lf.TK.ok_func (by kernel_rfl)) (by kernel_rfl) (fun _ => Lf.Rel.nilf)) (
  Lf.AllOK.cons (Lf.TI.ok_mk (z := .nilFunc) (Lf.TK.ok_func (by kernel_rfl)) (by kernel_rfl) (fun _ => Lf.Rel.nilf)) (
  Lf.AllOK.cons (Lf.TI.ok_mk (z := .nilFunc) (Lf.TK.ok_func (by kernel_rfl)) (by kernel_rfl) (fun _ => Lf.Rel.nilf)) (
  Lf.AllOK.cons (Lf.TI.ok_mk (z := .nilFunc) (Lf.TK.ok_func (by kernel_rfl)) (by kernel_rfl) (fun _ => Lf.Rel.nilf)) (
  Lf.AllOK.cons (Lf.TI.ok_mk (z := .nilFunc) (Lf.TK.ok_func (by kernel_rfl)) (by kernel_rfl) (fun _ => Lf.Rel.nilf)) (
  Lf.AllOK.cons (Lf.TI.ok_mk (z := .nilFunc) (Lf.TK.ok_func (by kernel_rfl)) (by kernel_rfl) (fun _ => Lf.Rel.nilf)) (
  Lf.AllOK.cons (Lf.TI.ok_mk (z := .pointer none) ((by kernel_rfl : Tryd.prog.underlying 75 = _)) (by kernel_rfl) (fun _ => Lf.Rel.nilp)) (
  Lf.AllOK.cons (Lf.TI.ok_mk (z := .nilFunc) (Lf.TK.ok_func (by kernel_rfl)) (by kernel_rfl) (fun _ => Lf.Rel.nilf)) (
  Lf.AllOK.cons (Lf.TI.ok_mk (z := .nilFunc) (Lf.TK.ok_func (by kernel_rfl)) (by kernel_rfl) (fun _ => Lf.Rel.nilf)) (
  Lf.AllOK.cons (Lf.TI.ok_mk (z := .pointer none) ((by kernel_rfl : Tryd.prog.underlying 79 = _)) (by kernel_rfl) (fun _ => Lf.Rel.nilp)) (
  Lf.AllOK.cons (Lf.TI.ok_mk (z := .agg #[.pointer none, .slice none 0 0]) (Lf.TK.ok_struct (by kernel_rfl)) (by kernel_rfl) (fun _ => ⟨_, rfl, ⟨.nilp, .slnil, trivial⟩⟩)) (
  Lf.AllOK.cons (Lf.TI.ok_mk (z := .agg #[.pointer none, .slice none 0 0]) (Lf.TK.ok_struct (by kernel_rfl)) (by kernel_rfl) (fun _ => ⟨_, rfl, ⟨.nilp, .slnil, trivial⟩⟩)) (
  Lf.AllOK.cons (Lf.TI.ok_mk (z := .nilFunc) (Lf.TK.ok_func (by kernel_rfl)) (by kernel_rfl) (fun _ => Lf.Rel.nilf)) (
  Lf.AllOK.cons (Lf.TI.ok_mk (z := .nilIface) (Lf.TK.ok_iface (by kernel_rfl)) (by kernel_rfl) (fun _ => Lf.Rel.nili)) (
  Lf.AllOK.cons (Lf.TI.ok_mk (z := .nilIface) (Lf.TK.ok_iface (by kernel_rfl)) (by kernel_rfl) (fun _ => Lf.Rel.nili)) (
  Lf.AllOK.cons (Lf.TI.ok_mk (z := .nilFunc) (Lf.TK.ok_func (by kernel_rfl)) (by kernel_rfl) (fun _ => Lf.Rel.nilf)) (
  Lf.AllOK.cons (Lf.TI.ok_mk (z := .nilFunc) (Lf.TK.ok_func (by kernel_rfl)) (by kernel_rfl) (fun _ => Lf.Rel.nilf)) (
  Lf.AllOK.cons (Lf.TI.ok_mk (z := .nilFunc) (Lf.TK.ok_func (by kernel_rfl)) (by kernel_rfl) (fun _ => Lf.Rel.nilf)) (
  Lf.AllOK.cons (Lf.TI.ok_mk (z := .nilFunc) (Lf.TK.ok_func (by kernel_rfl)) (by kernel_rfl) (fun _ => Lf.Rel.nilf)) (
  Lf.AllOK.cons (Lf.TI.ok_mk (z := .nilFunc) (Lf.TK.ok_func (by kernel_rfl)) (by kernel_rfl) (fun _ => Lf.Rel.nilf)) (
  Lf.AllOK.cons (Lf.TI.ok_mk (z := .nilFunc) (Lf.TK.ok_func (by kernel_rfl)) (by kernel_rfl) (fun _ => Lf.Rel.nilf)) (
  Lf.AllOK.cons (Lf.TI.ok_mk (z := .nilFunc) (Lf.TK.ok_func (by kernel_rfl)) (by kernel_rfl) (fun _ => Lf.Rel.nilf)) (
  Lf.AllOK.cons (Lf.TI.ok_mk (z := .nilFunc) (Lf.TK.ok_func (by kernel_rfl)) (by kernel_rfl) (fun _ => Lf.Rel.nilf)) (
  Lf.AllOK.cons (Lf.TI.ok_mk (z := .int .u32 0) ((by kernel_rfl : Tryd.prog.underlying 95 = _)) (by kernel_rfl) (fun _ => Lf.Rel.int _ _)) (
  Lf.AllOK.cons (Lf.TI.ok_mk (z := .nilFunc) (Lf.TK.ok_func (by kernel_rfl)) (by kernel_rfl) (fun _ => Lf.Rel.nilf)) (
  Lf.AllOK.cons (Lf.TI.ok_mk (z := .nilFunc) (Lf.TK.ok_func (by kernel_rfl)) (by kernel_rfl) (fun _ => Lf.Rel.nilf)) (
  Lf.AllOK.cons (Lf.TI.ok_mk (z := .pointer none) ((by kernel_rfl : Tryd.prog.underlying 100 = _)) (by kernel_rfl) (fun _ => Lf.Rel.nilp)) (
  Lf.AllOK.cons (Lf.TI.ok_mk (z := .nilFunc) (Lf.TK.ok_func (by kernel_rfl)) (by kernel_rfl) (fun _ => Lf.Rel.nilf)) (
  Lf.AllOK.cons (Lf.TI.ok_mk (z := .agg #[.int .u8 0, .int .u8 0, .int .u8 0, .int .u8 0, .int .u8 0, .int .u8 0, .int .u8 0, .int .u8 0, .int .u8 0, .int .u8 0, .int .u8 0, .int .u8 0, .int .u8 0, .int .u8 0, .int .u8 0, .int .u8 0, .int .u8 0, .int .u8 0, .int .u8 0, .int .u8 0, .int .u8 0, .int .u8 0, .int .u8 0, .int .u8 0]) ((by kernel_rfl : Tryd.prog.underlying 102 = _)) (by kernel_rfl) (fun _ => ⟨_, rfl, ⟨.int _ _, .int _ _, .int _ _, .int _ _, .int _ _, .int _ _, .int _ _, .int _ _, .int _ _, .int _ _, .int _ _, .int _ _, .int _ _, .int _ _, .int _ _, .int _ _, .int _ _, .int _ _, .int _ _, .int _ _, .int _ _, .int _ _, .int _ _, .int _ _, trivial⟩⟩)) (
  Lf.AllOK.cons (Lf.TI.ok_mk (z := .nilFunc) (Lf.TK.ok_func (by kernel_rfl)) (by kernel_rfl) (fun _ => Lf.Rel.nilf)) (
  Lf.AllOK.cons (Lf.TI.ok_mk (z := .nilFunc) (Lf.TK.ok_func (by kernel_rfl)) (by kernel_rfl) (fun _ => Lf.Rel.nilf)) (
  Lf.AllOK.cons (Lf.TI.ok_mk (z := .nilFunc) (Lf.TK.ok_func (by kernel_rfl)) (by kernel_rfl) (fun _ => Lf.Rel.nilf)) (
  Lf.AllOK.cons (Lf.TI.ok_mk (z := .nilFunc) (Lf.TK.ok_func (by kernel_rfl)) (by kernel_rfl) (fun _ => Lf.Rel.nilf)) (
  Lf.AllOK.cons (Lf.TI.ok_mk (z := .nilFunc) (Lf.TK.ok_func (by kernel_rfl)) (by kernel_rfl) (fun _ => Lf.Rel.nilf)) (
  Lf.AllOK.cons (Lf.TI.ok_mk (z := .agg #[.int .u8 0, .int .u8 0]) (Lf.TK.ok_struct (by kernel_rfl)) (by kernel_rfl) (fun _ => ⟨_, rfl, ⟨.int _ _, .int _ _, trivial⟩⟩)) (
  Lf.AllOK.cons (Lf.TI.ok_mk (z := .agg #[.int .u8 0, .int .u8 0]) (Lf.TK.ok_struct (by kernel_rfl)) (by kernel_rfl) (fun _ => ⟨_, rfl, ⟨.int _ _, .int _ _, trivial⟩⟩)) (
  Lf.AllOK.cons (Lf.TI.ok_mk (z := .agg #[.int .u8 0, .int .u8 0, .int .u8 0, .int .u8 0, .int .u8 0, .int .u8 0, .int .u8 0, .int .u8 0, .int .u8 0, .int .u8 0, .int .u8 0, .int .u8 0, .int .u8 0, .int .u8 0, .int .u8 0, .int .u8 0, .int .u8 0, .int .u8 0, .int .u8 0, .int .u8 0, .int .u8 0, .int .u8 0, .int .u8 0, .int .u8 0, .int .u8 0, .int .u8 0, .int .u8 0, .int .u8 0, .int .u8 0, .int .u8 0, .int .u8 0, .int .u8 0]) ((by kernel_rfl : Tryd.prog.underlying 113 = _)) (by kernel_rfl) (fun _ => ⟨_, rfl, ⟨.int _ _, .int _ _, .int _ _, .int _ _, .int _ _, .int _ _, .int _ _, .int _ _, .int _ _, .int _ _, .int _ _, .int _ _, .int _ _, .int _ _, .int _ _, .int _ _, .int _ _, .int _ _, .int _ _, .int _ _, .int _ _, .int _ _, .int _ _, .int _ _, .int _ _, .int _ _, .int _ _, .int _ _, .int _ _, .int _ _, .int _ _, .int _ _, trivial⟩⟩)) (
  Lf.AllOK.cons (Lf.TI.ok_mk (z := .nilFunc) (Lf.TK.ok_func (by kernel_rfl)) (by kernel_rfl) (fun _ => Lf.Rel.nilf)) (
  Lf.AllOK.cons (Lf.TI.ok_mk (z := .nilFunc) (Lf.TK.ok_func (by kernel_rfl)) (by kernel_rfl) (fun _ => Lf.Rel.nilf)) (
  Lf.AllOK.cons (Lf.TI.ok_mk (z := .nilFunc) (Lf.TK.ok_func (by kernel_rfl)) (by kernel_rfl) (fun _ => Lf.Rel.nilf)) (
  Lf.AllOK.cons (Lf.TI.ok_mk (z := .nilFunc) (Lf.TK.ok_func (by kernel_rfl)) (by kernel_rfl) (fun _ => Lf.Rel.nilf)) (
  Lf.AllOK.cons (Lf.TI.ok_mk (z := .nilFunc) (Lf.TK.ok_func (by kernel_rfl)) (by kernel_rfl) (fun _ => Lf.Rel.nilf)) (
  Lf.AllOK.cons (Lf.TI.ok_mk (z := .agg #[.int .u64 0, .int .u64 0, .int .u64 0, .int .u64 0, .int .u64 0, .int .u64 0, .int .u64 0, .int .u64 0, .int .u64 0, .int .u64 0, .int .u64 0, .int .u64 0, .int .u64 0, .int .u64 0, .int .u64 0, .int .u64 0, .int .u64 0, .int .u64 0, .int .u64 0, .int .u64 0]) ((by kernel_rfl : Tryd.prog.underlying 119 = _)) (by kernel_rfl) (fun _ => ⟨_, rfl, ⟨.int _ _, .int _ _, .int _ _, .int _ _, .int _ _, .int _ _, .int _ _, .int _ _, .int _ _, .int _ _, .int _ _, .int _ _, .int _ _, .int _ _, .int _ _, .int _ _, .int _ _, .int _ _, .int _ _, .int _ _, trivial⟩⟩)) (
  Lf.AllOK.cons (Lf.TI.ok_mk (z := .nilFunc) (Lf.TK.ok_func (by kernel_rfl)) (by kernel_rfl) (fun _ => Lf.Rel.nilf)) (
  Lf.AllOK.cons (Lf.TI.ok_mk (z := .nilFunc) (Lf.TK.ok_func (by kernel_rfl)) (by kernel_rfl) (fun _ => Lf.Rel.nilf)) (
  Lf.AllOK.cons (Lf.TI.ok_mk (z := .agg #[.int .u8 0, .int .u8 0, .int .u8 0, .int .u8 0, .int .u8 0, .int .u8 0, .int .u8 0, .int .u8 0, .int .u8 0, .int .u8 0, .int .u8 0, .int .u8 0, .int .u8 0, .int .u8 0, .int .u8 0, .int .u8 0, .int .u8 0, .int .u8 0, .int .u8 0, .int .u8 0, .int .u8 0, .int .u8 0, .int .u8 0, .int .u8 0, .int .u8 0, .int .u8 0, .int .u8 0, .int .u8 0, .int .u8 0, .int .u8 0, .int .u8 0, .int .u8 0]) ((by kernel_rfl : Tryd.prog.underlying 123 = _)) (by kernel_rfl) (fun _ => ⟨_, rfl, ⟨.int _ _, .int _ _, .int _ _, .int _ _, .int _ _, .int _ _, .int _ _, .int _ _, .int _ _, .int _ _, .int _ _, .int _ _, .int _ _, .int _ _, .int _ _, .int _ _, .int _ _, .int _ _, .int _ _, .int _ _, .int _ _, .int _ _, .int _ _, .int _ _, .int _ _, .int _ _, .int _ _, .int _ _, .int _ _, .int _ _, .int _ _, .int _ _, trivial⟩⟩)) (
  Lf.AllOK.cons (Lf.TI.ok_mk (z := .agg #[.int .u8 0, .int .u8 0, .int .u8 0, .int .u8 0, .int .u8 0, .int .u8 0, .int .u8 0, .int .u8 0, .int .u8 0, .int .u8 0, .int .u8 0, .int .u8 0, .int .u8 0, .int .u8 0, .int .u8 0, .int .u8 0, .int .u8 0, .int .u8 0, .int .u8 0, .int .u8 0, .int .u8 0, .int .u8 0, .int .u8 0, .int .u8 0, .int .u8 0, .int .u8 0, .int .u8 0, .int .u8 0, .int .u8 0, .int .u8 0, .int .u8 0, .int .u8 0, .int .u8 0, .int .u8 0, .int .u8 0, .int .u8 0, .int .u8 0, .int .u8 0, .int .u8 0, .int .u8 0, .int .u8 0, .int .u8 0, .int .u8 0, .int .u8 0, .int .u8 0, .int .u8 0, .int .u8 0, .int .u8 0, .int .u8 0, .int .u8 0, .int .u8 0, .int .u8 0, .int .u8 0, .int .u8 0, .int .u8 0, .int .u8 0, .int .u8 0, .int .u8 0, .int .u8 0, .int .u8 0, .int .u8 0, .int .u8 0, .int .u8 0, .int .u8 0]) ((by kernel_rfl : Tryd.prog.underlying 124 = _)) (by kernel_rfl) (fun _ => ⟨_, rfl, ⟨.int _ _, .int _ _, .int _ _, .int _ _, .int _ _, .int _ _, .int _ _, .int _ _, .int _ _, .int _ _, .int _ _, .int _ _, .int _ _, .int _ _, .int _ _, .int _ _, .int _ _, .int _ _, .int _ _, .int _ _, .int _ _, .int _ _, .int _ _, .int _ _, .int _ _, .int _ _, .int _ _, .int _ _, .int _ _, .int _ _, .int _ _, .int _ _, .int _ _, .int _ _, .int _ _, .int _ _, .int _ _, .int _ _, .int _ _, .int _ _, .int _ _, .int _ _, .int _ _, .int _ _, .int _ _, .int _ _, .int _ _, .int _ _, .int _ _, .int _ _, .int _ _, .int _ _, .int _ _, .int _ _, .int _ _, .int _ _, .int _ _, .int _ _, .int _ _, .int _ _, .int _ _, .int _ _, .int _ _, .int _ _, trivial⟩⟩)) (
  Lf.AllOK.cons (Lf.TI.ok_mk (z := .agg #[.pointer none, .pointer none, .pointer none, .string ⟨#[]⟩]) (Lf.TK.ok_struct (by kernel_rfl)) (by kernel_rfl) (fun _ => ⟨_, rfl, ⟨.nilp, .nilp, .nilp, .str ⟨#[]⟩, trivial⟩⟩)) (
  Lf.AllOK.cons (Lf.TI.ok_mk (z := .agg #[.pointer none, .pointer none, .pointer none, .string ⟨#[]⟩]) (Lf.TK.ok_struct (by kernel_rfl)) (by kernel_rfl) (fun _ => ⟨_, rfl, ⟨.nilp, .nilp, .nilp, .str ⟨#[]⟩, trivial⟩⟩)) (
  Lf.AllOK.cons (Lf.TI.ok_mk (z := .int .u8 0) ((by kernel_rfl : Tryd.prog.underlying 130 = _)) (by kernel_rfl) (fun _ => Lf.Rel.int _ _)) (
  Lf.AllOK.cons (Lf.TI.ok_mk (z := .int .u8 0) ((by kernel_rfl : Tryd.prog.underlying 131 = _)) (by kernel_rfl) (fun _ => Lf.Rel.int _ _)) (
  Lf.AllOK.cons (Lf.TI.ok_mk (z := .nilFunc) (Lf.TK.ok_func (by kernel_rfl)) (by kernel_rfl) (fun _ => Lf.Rel.nilf)) (
  Lf.AllOK.cons (Lf.TI.ok_mk (z := .int .i32 0) ((by kernel_rfl : Tryd.prog.underlying 133 = _)) (by kernel_rfl) (fun _ => Lf.Rel.int _ _)) (
  Lf.AllOK.cons (Lf.TI.ok_mk (z := .int .i32 0) ((by kernel_rfl : Tryd.prog.underlying 134 = _)) (by kernel_rfl) (fun _ => Lf.Rel.int _ _)) (
  Lf.AllOK.cons (Lf.TI.ok_mk (z := .agg #[.int .u64 0, .int .u64 0, .int .u32 0, .int .u8 0, .int .u8 0, .int .u8 0, .int .u8 0, .nilFunc, .pointer none, .int .i32 0, .int .i32 0]) (Lf.TK.ok_struct (by kernel_rfl)) (by kernel_rfl) (fun _ => ⟨_, rfl, ⟨.int _ _, .int _ _, .int _ _, .int _ _, .int _ _, .int _ _, .int _ _, .nilf, .nilp, .int _ _, .int _ _, trivial⟩⟩)) (
  Lf.AllOK.cons (Lf.TI.ok_mk (z := .agg #[.int .u64 0, .int .u64 0, .int .u32 0, .int .u8 0, .int .u8 0, .int .u8 0, .int .u8 0, .nilFunc, .pointer none, .int .i32 0, .int .i32 0]) (Lf.TK.ok_struct (by kernel_rfl)) (by kernel_rfl) (fun _ => ⟨_, rfl, ⟨.int _ _, .int _ _, .int _ _, .int _ _, .int _ _, .int _ _, .int _ _, .nilf, .nilp, .int _ _, .int _ _, trivial⟩⟩)) (
  Lf.AllOK.nil))))))))))))))))))))))))))))))))))))))))))))))))))))))))))))))))))))))))))))))))))))))))))))))))))))))))))))))))))))
theorem mixed : Tryd.prog.follows .mixedOrders = true := by kernel_rfl
end Go.Proofs.YtldgkgfkdipdeaaDoor

