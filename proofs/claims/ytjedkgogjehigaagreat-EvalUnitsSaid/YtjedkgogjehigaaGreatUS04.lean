/-
  Part 4 of what the proof rests on.
-/
import Derived.Test.YtjedkgogjehigaaGreatRows
import Derived.Test.YtjedkgogjehigaaGreatUS03
import Derived.KernelRfl
section
set_option maxRecDepth 100000
set_option maxHeartbeats 4000000
namespace Go.Proofs.YtjedkgogjehigaaGreat
open Lf
def TYL : List (Nat × Lf.TI) := [
  (1, ⟨.func, 1, 8, .one (.nilf)⟩),
  (2, ⟨.int .i64, 1, 8, .one (.int .i64 0)⟩),
  (3, ⟨.int .i64, 1, 8, .one (.int .i64 0)⟩),
  (4, ⟨.bool, 1, 1, .one (.bool false)⟩),
  (5, ⟨.int .u8, 1, 1, .one (.int .u8 0)⟩),
  (6, ⟨.int .u8, 1, 1, .one (.int .u8 0)⟩),
  (7, ⟨.struct [(0, 2), (1, 3), (2, 4), (3, 6)], 4, 24, .agg [.int .i64 0, .int .i64 0, .bool false, .int .u8 0]⟩),
  (8, ⟨.struct [(0, 2), (1, 3), (2, 4), (3, 6)], 4, 24, .agg [.int .i64 0, .int .i64 0, .bool false, .int .u8 0]⟩),
  (9, ⟨.string, 1, 16, .one (.str [])⟩),
  (10, ⟨.string, 1, 16, .one (.str [])⟩),
  (11, ⟨.string, 1, 16, .one (.str [])⟩),
  (12, ⟨.int .u64, 1, 8, .one (.int .u64 0)⟩),
  (13, ⟨.struct [(0, 9), (1, 12)], 2, 24, .agg [.str [], .int .u64 0]⟩),
  (14, ⟨.struct [(0, 9), (1, 12)], 2, 24, .agg [.str [], .int .u64 0]⟩),
  (15, ⟨.ptr 149, 1, 8, .one (.nilp)⟩),
  (16, ⟨.ptr 152, 1, 8, .one (.nilp)⟩),
  (17, ⟨.ptr 162, 1, 8, .one (.nilp)⟩),
  (18, ⟨.struct [(0, 17)], 1, 8, .agg [.nilp]⟩),
  (19, ⟨.struct [(0, 17)], 1, 8, .agg [.nilp]⟩),
  (20, ⟨.iface, 1, 16, .one (.nili)⟩),
  (21, ⟨.int .i32, 1, 4, .one (.int .i32 0)⟩),
  (22, ⟨.slice 56, 1, 24, .one (.slnil)⟩),
  (23, ⟨.slice 25, 1, 24, .one (.slnil)⟩),
  (24, ⟨.struct [(0, 3), (1, 3), (2, 3), (3, 9), (4, 23)], 5, 64, .agg [.int .i64 0, .int .i64 0, .int .i64 0, .str [], .slnil]⟩),
  (25, ⟨.struct [(0, 3), (1, 3), (2, 3), (3, 9), (4, 23)], 5, 64, .agg [.int .i64 0, .int .i64 0, .int .i64 0, .str [], .slnil]⟩),
  (26, ⟨.slice 9, 1, 24, .one (.slnil)⟩),
  (27, ⟨.slice 40, 1, 24, .one (.slnil)⟩),
  (28, ⟨.struct [(0, 26), (1, 27), (2, 26), (3, 27)], 4, 96, .agg [.slnil, .slnil, .slnil, .slnil]⟩),
  (29, ⟨.struct [(0, 26), (1, 27), (2, 26), (3, 27)], 4, 96, .agg [.slnil, .slnil, .slnil, .slnil]⟩),
  (30, ⟨.func, 1, 8, .one (.nilf)⟩),
  (31, ⟨.slice 164, 1, 24, .one (.slnil)⟩),
  (32, ⟨.slice 166, 1, 24, .one (.slnil)⟩),
  (33, ⟨.struct [(0, 9), (1, 9), (2, 3), (3, 3), (4, 3), (5, 3), (6, 3), (7, 3), (8, 3), (9, 3), (10, 22), (11, 25), (16, 3), (17, 31), (18, 26), (19, 3), (20, 32), (21, 3), (22, 3), (23, 3), (24, 3)], 25, 304, .agg [.str [], .str [], .int .i64 0, .int .i64 0, .int .i64 0, .int .i64 0, .int .i64 0, .int .i64 0, .int .i64 0, .int .i64 0, .slnil, .int .i64 0, .int .i64 0, .int .i64 0, .str [], .slnil, .int .i64 0, .slnil, .slnil, .int .i64 0, .slnil, .int .i64 0, .int .i64 0, .int .i64 0, .int .i64 0]⟩),
  (34, ⟨.struct [(0, 9), (1, 9), (2, 3), (3, 3), (4, 3), (5, 3), (6, 3), (7, 3), (8, 3), (9, 3), (10, 22), (11, 25), (16, 3), (17, 31), (18, 26), (19, 3), (20, 32), (21, 3), (22, 3), (23, 3), (24, 3)], 25, 304, .agg [.str [], .str [], .int .i64 0, .int .i64 0, .int .i64 0, .int .i64 0, .int .i64 0, .int .i64 0, .int .i64 0, .int .i64 0, .slnil, .int .i64 0, .int .i64 0, .int .i64 0, .str [], .slnil, .int .i64 0, .slnil, .slnil, .int .i64 0, .slnil, .int .i64 0, .int .i64 0, .int .i64 0, .int .i64 0]⟩),
  (35, ⟨.func, 1, 8, .one (.nilf)⟩),
  (36, ⟨.slice 3, 1, 24, .one (.slnil)⟩),
  (37, ⟨.struct [(0, 3), (1, 36)], 2, 32, .agg [.int .i64 0, .slnil]⟩),
  (38, ⟨.struct [(0, 3), (1, 36)], 2, 32, .agg [.int .i64 0, .slnil]⟩),
  (39, ⟨.struct [(0, 38), (2, 38)], 4, 64, .agg [.int .i64 0, .slnil, .int .i64 0, .slnil]⟩),
  (40, ⟨.struct [(0, 38), (2, 38)], 4, 64, .agg [.int .i64 0, .slnil, .int .i64 0, .slnil]⟩),
  (41, ⟨.int .i64, 1, 8, .one (.int .i64 0)⟩),
  (43, ⟨.func, 1, 8, .one (.nilf)⟩),
  (44, ⟨.struct [(0, 26), (1, 27), (2, 26), (3, 27)], 4, 96, .agg [.slnil, .slnil, .slnil, .slnil]⟩),
  (45, ⟨.func, 1, 8, .one (.nilf)⟩),
  (46, ⟨.func, 1, 8, .one (.nilf)⟩),
  (47, ⟨.func, 1, 8, .one (.nilf)⟩),
  (48, ⟨.func, 1, 8, .one (.nilf)⟩),
  (50, ⟨.func, 1, 8, .one (.nilf)⟩),
  (51, ⟨.func, 1, 8, .one (.nilf)⟩),
  (52, ⟨.func, 1, 8, .one (.nilf)⟩),
  (53, ⟨.func, 1, 8, .one (.nilf)⟩),
  (54, ⟨.func, 1, 8, .one (.nilf)⟩),
  (55, ⟨.struct [(0, 9), (1, 25)], 6, 80, .agg [.str [], .int .i64 0, .int .i64 0, .int .i64 0, .str [], .slnil]⟩),
  (56, ⟨.struct [(0, 9), (1, 25)], 6, 80, .agg [.str [], .int .i64 0, .int .i64 0, .int .i64 0, .str [], .slnil]⟩),
  (57, ⟨.func, 1, 8, .one (.nilf)⟩),
  (58, ⟨.func, 1, 8, .one (.nilf)⟩),
  (59, ⟨.func, 1, 8, .one (.nilf)⟩),
  (60, ⟨.func, 1, 8, .one (.nilf)⟩),
  (61, ⟨.func, 1, 8, .one (.nilf)⟩),
  (62, ⟨.func, 1, 8, .one (.nilf)⟩),
  (63, ⟨.func, 1, 8, .one (.nilf)⟩),
  (64, ⟨.func, 1, 8, .one (.nilf)⟩),
  (65, ⟨.ptr 68, 1, 8, .one (.nilp)⟩),
  (66, ⟨.map 3 40, 1, 8, .one (.nilm)⟩),
  (67, ⟨.struct [(0, 22), (1, 44), (5, 66)], 6, 128, .agg [.slnil, .slnil, .slnil, .slnil, .slnil, .nilm]⟩),
  (68, ⟨.struct [(0, 22), (1, 44), (5, 66)], 6, 128, .agg [.slnil, .slnil, .slnil, .slnil, .slnil, .nilm]⟩),
  (69, ⟨.func, 1, 8, .one (.nilf)⟩),
  (70, ⟨.func, 1, 8, .one (.nilf)⟩),
  (71, ⟨.func, 1, 8, .one (.nilf)⟩),
  (72, ⟨.func, 1, 8, .one (.nilf)⟩),
  (73, ⟨.struct [(0, 36), (1, 41)], 2, 32, .agg [.slnil, .int .i64 0]⟩),
  (74, ⟨.struct [(0, 36), (1, 41)], 2, 32, .agg [.slnil, .int .i64 0]⟩),
  (76, ⟨.struct [(0, 22), (1, 36)], 2, 48, .agg [.slnil, .slnil]⟩),
  (77, ⟨.struct [(0, 22), (1, 36)], 2, 48, .agg [.slnil, .slnil]⟩),
  (78, ⟨.func, 1, 8, .one (.nilf)⟩),
  (79, ⟨.func, 1, 8, .one (.nilf)⟩),
  (80, ⟨.func, 1, 8, .one (.nilf)⟩),
  (81, ⟨.func, 1, 8, .one (.nilf)⟩),
  (82, ⟨.func, 1, 8, .one (.nilf)⟩),
  (83, ⟨.func, 1, 8, .one (.nilf)⟩),
  (84, ⟨.func, 1, 8, .one (.nilf)⟩),
  (85, ⟨.func, 1, 8, .one (.nilf)⟩),
  (86, ⟨.func, 1, 8, .one (.nilf)⟩),
  (87, ⟨.func, 1, 8, .one (.nilf)⟩),
  (88, ⟨.func, 1, 8, .one (.nilf)⟩),
  (89, ⟨.func, 1, 8, .one (.nilf)⟩),
  (90, ⟨.func, 1, 8, .one (.nilf)⟩),
  (91, ⟨.func, 1, 8, .one (.nilf)⟩),
  (92, ⟨.func, 1, 8, .one (.nilf)⟩),
  (93, ⟨.func, 1, 8, .one (.nilf)⟩),
  (94, ⟨.func, 1, 8, .one (.nilf)⟩),
  (95, ⟨.func, 1, 8, .one (.nilf)⟩),
  (96, ⟨.func, 1, 8, .one (.nilf)⟩),
  (97, ⟨.func, 1, 8, .one (.nilf)⟩),
  (98, ⟨.func, 1, 8, .one (.nilf)⟩),
  (100, ⟨.func, 1, 8, .one (.nilf)⟩),
  (101, ⟨.func, 1, 8, .one (.nilf)⟩),
  (103, ⟨.func, 1, 8, .one (.nilf)⟩),
  (104, ⟨.func, 1, 8, .one (.nilf)⟩),
  (105, ⟨.func, 1, 8, .one (.nilf)⟩),
  (106, ⟨.func, 1, 8, .one (.nilf)⟩),
  (107, ⟨.func, 1, 8, .one (.nilf)⟩),
  (108, ⟨.func, 1, 8, .one (.nilf)⟩),
  (109, ⟨.func, 1, 8, .one (.nilf)⟩),
  (110, ⟨.func, 1, 8, .one (.nilf)⟩),
  (111, ⟨.func, 1, 8, .one (.nilf)⟩),
  (113, ⟨.func, 1, 8, .one (.nilf)⟩),
  (114, ⟨.func, 1, 8, .one (.nilf)⟩),
  (115, ⟨.func, 1, 8, .one (.nilf)⟩),
  (116, ⟨.func, 1, 8, .one (.nilf)⟩),
  (118, ⟨.func, 1, 8, .one (.nilf)⟩),
  (120, ⟨.func, 1, 8, .one (.nilf)⟩),
  (121, ⟨.int .u64, 1, 8, .one (.int .u64 0)⟩),
  (122, ⟨.int .u64, 1, 8, .one (.int .u64 0)⟩),
  (123, ⟨.func, 1, 8, .one (.nilf)⟩),
  (124, ⟨.func, 1, 8, .one (.nilf)⟩),
  (125, ⟨.func, 1, 8, .one (.nilf)⟩),
  (126, ⟨.func, 1, 8, .one (.nilf)⟩),
  (127, ⟨.func, 1, 8, .one (.nilf)⟩),
  (128, ⟨.func, 1, 8, .one (.nilf)⟩),
  (129, ⟨.func, 1, 8, .one (.nilf)⟩),
  (130, ⟨.func, 1, 8, .one (.nilf)⟩),
  (131, ⟨.func, 1, 8, .one (.nilf)⟩),
  (132, ⟨.func, 1, 8, .one (.nilf)⟩),
  (133, ⟨.func, 1, 8, .one (.nilf)⟩),
  (134, ⟨.func, 1, 8, .one (.nilf)⟩),
  (136, ⟨.func, 1, 8, .one (.nilf)⟩),
  (137, ⟨.func, 1, 8, .one (.nilf)⟩),
  (138, ⟨.func, 1, 8, .one (.nilf)⟩),
  (139, ⟨.func, 1, 8, .one (.nilf)⟩),
  (140, ⟨.func, 1, 8, .one (.nilf)⟩),
  (141, ⟨.func, 1, 8, .one (.nilf)⟩),
  (142, ⟨.func, 1, 8, .one (.nilf)⟩),
  (143, ⟨.func, 1, 8, .one (.nilf)⟩),
  (144, ⟨.func, 1, 8, .one (.nilf)⟩),
  (145, ⟨.func, 1, 8, .one (.nilf)⟩),
  (146, ⟨.func, 1, 8, .one (.nilf)⟩),
  (147, ⟨.func, 1, 8, .one (.nilf)⟩),
  (148, ⟨.struct [(0, 17), (1, 17), (2, 17), (3, 9)], 4, 40, .agg [.nilp, .nilp, .nilp, .str []]⟩),
  (149, ⟨.struct [(0, 17), (1, 17), (2, 17), (3, 9)], 4, 40, .agg [.nilp, .nilp, .nilp, .str []]⟩),
  (153, ⟨.func, 1, 8, .one (.nilf)⟩),
  (154, ⟨.int .u32, 1, 4, .one (.int .u32 0)⟩),
  (155, ⟨.int .u8, 1, 1, .one (.int .u8 0)⟩),
  (156, ⟨.int .u8, 1, 1, .one (.int .u8 0)⟩),
  (157, ⟨.func, 1, 8, .one (.nilf)⟩),
  (158, ⟨.ptr 5, 1, 8, .one (.nilp)⟩),
  (159, ⟨.int .i32, 1, 4, .one (.int .i32 0)⟩),
  (160, ⟨.int .i32, 1, 4, .one (.int .i32 0)⟩),
  (161, ⟨.struct [(0, 12), (1, 12), (2, 154), (3, 155), (4, 5), (5, 5), (6, 156), (7, 157), (8, 158), (9, 159), (10, 160)], 11, 48, .agg [.int .u64 0, .int .u64 0, .int .u32 0, .int .u8 0, .int .u8 0, .int .u8 0, .int .u8 0, .nilf, .nilp, .int .i32 0, .int .i32 0]⟩),
  (162, ⟨.struct [(0, 12), (1, 12), (2, 154), (3, 155), (4, 5), (5, 5), (6, 156), (7, 157), (8, 158), (9, 159), (10, 160)], 11, 48, .agg [.int .u64 0, .int .u64 0, .int .u32 0, .int .u8 0, .int .u8 0, .int .u8 0, .int .u8 0, .nilf, .nilp, .int .i32 0, .int .i32 0]⟩),
  (163, ⟨.struct [(0, 9), (1, 25), (6, 3)], 7, 88, .agg [.str [], .int .i64 0, .int .i64 0, .int .i64 0, .str [], .slnil, .int .i64 0]⟩),
  (164, ⟨.struct [(0, 9), (1, 25), (6, 3)], 7, 88, .agg [.str [], .int .i64 0, .int .i64 0, .int .i64 0, .str [], .slnil, .int .i64 0]⟩),
  (165, ⟨.struct [(0, 3), (1, 3)], 2, 16, .agg [.int .i64 0, .int .i64 0]⟩),
  (166, ⟨.struct [(0, 3), (1, 3)], 2, 16, .agg [.int .i64 0, .int .i64 0]⟩)]
def TY : Lf.TT := Lf.lk TYL
theorem TYok : Lf.TOK Tryz.prog TY := Lf.TOK.of_list (
  Lf.AllOK.cons (Lf.TI.ok_mk (z := .nilFunc) (Lf.TK.ok_func (by kernel_rfl)) (by kernel_rfl) (fun _ => Lf.Rel.nilf)) (
  Lf.AllOK.cons (Lf.TI.ok_mk (z := .int .i64 0) ((by kernel_rfl : Tryz.prog.underlying 2 = _)) (by kernel_rfl) (fun _ => Lf.Rel.int _ _)) (
  Lf.AllOK.cons (Lf.TI.ok_mk (z := .int .i64 0) ((by kernel_rfl : Tryz.prog.underlying 3 = _)) (by kernel_rfl) (fun _ => Lf.Rel.int _ _)) (
  Lf.AllOK.cons (Lf.TI.ok_mk (z := .bool false) ((by kernel_rfl : Tryz.prog.underlying 4 = _)) (by kernel_rfl) (fun _ => Lf.Rel.bool _)) (
  Lf.AllOK.cons (Lf.TI.ok_mk (z := .int .u8 0) ((by kernel_rfl : Tryz.prog.underlying 5 = _)) (by kernel_rfl) (fun _ => Lf.Rel.int _ _)) (
  Lf.AllOK.cons (Lf.TI.ok_mk (z := .int .u8 0) ((by kernel_rfl : Tryz.prog.underlying 6 = _)) (by kernel_rfl) (fun _ => Lf.Rel.int _ _)) (
  Lf.AllOK.cons (Lf.TI.ok_mk (z := .agg #[.int .i64 0, .int .i64 0, .bool false, .int .u8 0]) (Lf.TK.ok_struct (by kernel_rfl)) (by kernel_rfl) (fun _ => ⟨_, rfl, ⟨.int _ _, .int _ _, .bool _, .int _ _, trivial⟩⟩)) (
  Lf.AllOK.cons (Lf.TI.ok_mk (z := .agg #[.int .i64 0, .int .i64 0, .bool false, .int .u8 0]) (Lf.TK.ok_struct (by kernel_rfl)) (by kernel_rfl) (fun _ => ⟨_, rfl, ⟨.int _ _, .int _ _, .bool _, .int _ _, trivial⟩⟩)) (
  Lf.AllOK.cons (Lf.TI.ok_mk (z := .string ⟨#[]⟩) ((by kernel_rfl : Tryz.prog.underlying 9 = _)) (by kernel_rfl) (fun _ => Lf.Rel.str ⟨#[]⟩)) (
  Lf.AllOK.cons (Lf.TI.ok_mk (z := .string ⟨#[]⟩) ((by kernel_rfl : Tryz.prog.underlying 10 = _)) (by kernel_rfl) (fun _ => Lf.Rel.str ⟨#[]⟩)) (
  Lf.AllOK.cons (Lf.TI.ok_mk (z := .string ⟨#[]⟩) ((by kernel_rfl : Tryz.prog.underlying 11 = _)) (by kernel_rfl) (fun _ => Lf.Rel.str ⟨#[]⟩)) (
  Lf.AllOK.cons (Lf.TI.ok_mk (z := .int .u64 0) ((by kernel_rfl : Tryz.prog.underlying 12 = _)) (by kernel_rfl) (fun _ => Lf.Rel.int _ _)) (
  Lf.AllOK.cons (Lf.TI.ok_mk (z := .agg #[.string ⟨#[]⟩, .int .u64 0]) (Lf.TK.ok_struct (by kernel_rfl)) (by kernel_rfl) (fun _ => ⟨_, rfl, ⟨.str ⟨#[]⟩, .int _ _, trivial⟩⟩)) (
  Lf.AllOK.cons (Lf.TI.ok_mk (z := .agg #[.string ⟨#[]⟩, .int .u64 0]) (Lf.TK.ok_struct (by kernel_rfl)) (by kernel_rfl) (fun _ => ⟨_, rfl, ⟨.str ⟨#[]⟩, .int _ _, trivial⟩⟩)) (
  Lf.AllOK.cons (Lf.TI.ok_mk (z := .pointer none) ((by kernel_rfl : Tryz.prog.underlying 15 = _)) (by kernel_rfl) (fun _ => Lf.Rel.nilp)) (
  Lf.AllOK.cons (Lf.TI.ok_mk (z := .pointer none) ((by kernel_rfl : Tryz.prog.underlying 16 = _)) (by kernel_rfl) (fun _ => Lf.Rel.nilp)) (
  Lf.AllOK.cons (Lf.TI.ok_mk (z := .pointer none) ((by kernel_rfl : Tryz.prog.underlying 17 = _)) (by kernel_rfl) (fun _ => Lf.Rel.nilp)) (
  Lf.AllOK.cons (Lf.TI.ok_mk (z := .agg #[.pointer none]) (Lf.TK.ok_struct (by kernel_rfl)) (by kernel_rfl) (fun _ => ⟨_, rfl, ⟨.nilp, trivial⟩⟩)) (
  Lf.AllOK.cons (Lf.TI.ok_mk (z := .agg #[.pointer none]) (Lf.TK.ok_struct (by kernel_rfl)) (by kernel_rfl) (fun _ => ⟨_, rfl, ⟨.nilp, trivial⟩⟩)) (
  Lf.AllOK.cons (Lf.TI.ok_mk (z := .nilIface) (Lf.TK.ok_iface (by kernel_rfl)) (by kernel_rfl) (fun _ => Lf.Rel.nili)) (
  Lf.AllOK.cons (Lf.TI.ok_mk (z := .int .i32 0) ((by kernel_rfl : Tryz.prog.underlying 21 = _)) (by kernel_rfl) (fun _ => Lf.Rel.int _ _)) (
  Lf.AllOK.cons (Lf.TI.ok_mk (z := .slice none 0 0) ((by kernel_rfl : Tryz.prog.underlying 22 = _)) (by kernel_rfl) (fun _ => Lf.Rel.slnil)) (
  Lf.AllOK.cons (Lf.TI.ok_mk (z := .slice none 0 0) ((by kernel_rfl : Tryz.prog.underlying 23 = _)) (by kernel_rfl) (fun _ => Lf.Rel.slnil)) (
  Lf.AllOK.cons (Lf.TI.ok_mk (z := .agg #[.int .i64 0, .int .i64 0, .int .i64 0, .string ⟨#[]⟩, .slice none 0 0]) (Lf.TK.ok_struct (by kernel_rfl)) (by kernel_rfl) (fun _ => ⟨_, rfl, ⟨.int _ _, .int _ _, .int _ _, .str ⟨#[]⟩, .slnil, trivial⟩⟩)) (
  Lf.AllOK.cons (Lf.TI.ok_mk (z := .agg #[.int .i64 0, .int .i64 0, .int .i64 0, .string ⟨#[]⟩, .slice none 0 0]) (Lf.TK.ok_struct (by kernel_rfl)) (by kernel_rfl) (fun _ => ⟨_, rfl, ⟨.int _ _, .int _ _, .int _ _, .str ⟨#[]⟩, .slnil, trivial⟩⟩)) (
  Lf.AllOK.cons (Lf.TI.ok_mk (z := .slice none 0 0) ((by kernel_rfl : Tryz.prog.underlying 26 = _)) (by kernel_rfl) (fun _ => Lf.Rel.slnil)) (
  Lf.AllOK.cons (Lf.TI.ok_mk (z := .slice none 0 0) ((by kernel_rfl : Tryz.prog.underlying 27 = _)) (by kernel_rfl) (fun _ => Lf.Rel.slnil)) (
  Lf.AllOK.cons (Lf.TI.ok_mk (z := .agg #[.slice none 0 0, .slice none 0 0, .slice none 0 0, .slice none 0 0]) (Lf.TK.ok_struct (by kernel_rfl)) (by kernel_rfl) (fun _ => ⟨_, rfl, ⟨.slnil, .slnil, .slnil, .slnil, trivial⟩⟩)) (
  Lf.AllOK.cons (Lf.TI.ok_mk (z := .agg #[.slice none 0 0, .slice none 0 0, .slice none 0 0, .slice none 0 0]) (Lf.TK.ok_struct (by kernel_rfl)) (by kernel_rfl) (fun _ => ⟨_, rfl, ⟨.slnil, .slnil, .slnil, .slnil, trivial⟩⟩)) (
  Lf.AllOK.cons (Lf.TI.ok_mk (z := .nilFunc) (Lf.TK.ok_func (by kernel_rfl)) (by kernel_rfl) (fun _ => Lf.Rel.nilf)) (
  Lf.AllOK.cons (Lf.TI.ok_mk (z := .slice none 0 0) ((by kernel_rfl : Tryz.prog.underlying 31 = _)) (by kernel_rfl) (fun _ => Lf.Rel.slnil)) (
  Lf.AllOK.cons (Lf.TI.ok_mk (z := .slice none 0 0) ((by kernel_rfl : Tryz.prog.underlying 32 = _)) (by kernel_rfl) (fun _ => Lf.Rel.slnil)) (
  Lf.AllOK.cons (Lf.TI.ok_mk (z := .agg #[.string ⟨#[]⟩, .string ⟨#[]⟩, .int .i64 0, .int .i64 0, .int .i64 0, .int .i64 0, .int .i64 0, .int .i64 0, .int .i64 0, .int .i64 0, .slice none 0 0, .int .i64 0, .int .i64 0, .int .i64 0, .string ⟨#[]⟩, .slice none 0 0, .int .i64 0, .slice none 0 0, .slice none 0 0, .int .i64 0, .slice none 0 0, .int .i64 0, .int .i64 0, .int .i64 0, .int .i64 0]) (Lf.TK.ok_struct (by kernel_rfl)) (by kernel_rfl) (fun _ => ⟨_, rfl, ⟨.str ⟨#[]⟩, .str ⟨#[]⟩, .int _ _, .int _ _, .int _ _, .int _ _, .int _ _, .int _ _, .int _ _, .int _ _, .slnil, .int _ _, .int _ _, .int _ _, .str ⟨#[]⟩, .slnil, .int _ _, .slnil, .slnil, .int _ _, .slnil, .int _ _, .int _ _, .int _ _, .int _ _, trivial⟩⟩)) (
  Lf.AllOK.cons (Lf.TI.ok_mk (z := .agg #[.string ⟨#[]⟩, .string ⟨#[]⟩, .int .i64 0, .int .i64 0, .int .i64 0, .int .i64 0, .int .i64 0, .int .i64 0, .int .i64 0, .int .i64 0, .slice none 0 0, .int .i64 0, .int .i64 0, .int .i64 0, .string ⟨#[]⟩, .slice none 0 0, .int .i64 0, .slice none 0 0, .slice none 0 0, .int .i64 0, .slice none 0 0, .int .i64 0, .int .i64 0, .int .i64 0, .int .i64 0]) (Lf.TK.ok_struct (by kernel_rfl)) (by kernel_rfl) (fun _ => ⟨_, rfl, ⟨.str ⟨#[]⟩, .str ⟨#[]⟩, .int _ _, .int _ _, .int _ _, .int _ _, .int _ _, .int _ _, .int _ _, .int _ _, .slnil, .int _ _, .int _ _, .int _ _, .str ⟨#[]⟩, .slnil, .int _ _, .slnil, .slnil, .int _ _, .slnil, .int _ _, .int _ _, .int _ _, .int _ _, trivial⟩⟩)) (
  Lf.AllOK.cons (Lf.TI.ok_mk (z := .nilFunc) (Lf.TK.ok_func (by kernel_rfl)) (by kernel_rfl) (fun _ => Lf.Rel.nilf)) (
  Lf.AllOK.cons (Lf.TI.ok_mk (z := .slice none 0 0) ((by kernel_rfl : Tryz.prog.underlying 36 = _)) (by kernel_rfl) (fun _ => Lf.Rel.slnil)) (
  Lf.AllOK.cons (Lf.TI.ok_mk (z := .agg #[.int .i64 0, .slice none 0 0]) (Lf.TK.ok_struct (by kernel_rfl)) (by kernel_rfl) (fun _ => ⟨_, rfl, ⟨.int _ _, .slnil, trivial⟩⟩)) (
  Lf.AllOK.cons (Lf.TI.ok_mk (z := .agg #[.int .i64 0, .slice none 0 0]) (Lf.TK.ok_struct (by kernel_rfl)) (by kernel_rfl) (fun _ => ⟨_, rfl, ⟨.int _ _, .slnil, trivial⟩⟩)) (
  Lf.AllOK.cons (Lf.TI.ok_mk (z := .agg #[.int .i64 0, .slice none 0 0, .int .i64 0, .slice none 0 0]) (Lf.TK.ok_struct (by kernel_rfl)) (by kernel_rfl) (fun _ => ⟨_, rfl, ⟨.int _ _, .slnil, .int _ _, .slnil, trivial⟩⟩)) (
  Lf.AllOK.cons (Lf.TI.ok_mk (z := .agg #[.int .i64 0, .slice none 0 0, .int .i64 0, .slice none 0 0]) (Lf.TK.ok_struct (by kernel_rfl)) (by kernel_rfl) (fun _ => ⟨_, rfl, ⟨.int _ _, .slnil, .int _ _, .slnil, trivial⟩⟩)) (
  Lf.AllOK.cons (Lf.TI.ok_mk (z := .int .i64 0) ((by kernel_rfl : Tryz.prog.underlying 41 = _)) (by kernel_rfl) (fun _ => Lf.Rel.int _ _)) (
  Lf.AllOK.cons (Lf.TI.ok_mk (z := .nilFunc) (Lf.TK.ok_func (by kernel_rfl)) (by kernel_rfl) (fun _ => Lf.Rel.nilf)) (
  Lf.AllOK.cons (Lf.TI.ok_mk (z := .agg #[.slice none 0 0, .slice none 0 0, .slice none 0 0, .slice none 0 0]) (Lf.TK.ok_struct (by kernel_rfl)) (by kernel_rfl) (fun _ => ⟨_, rfl, ⟨.slnil, .slnil, .slnil, .slnil, trivial⟩⟩)) (
  Lf.AllOK.cons (Lf.TI.ok_mk (z := .nilFunc) (Lf.TK.ok_func (by kernel_rfl)) (by kernel_rfl) (fun _ => Lf.Rel.nilf)) (
  Lf.AllOK.cons (Lf.TI.ok_mk (z := .nilFunc) (Lf.TK.ok_func (by kernel_rfl)) (by kernel_rfl) (fun _ => Lf.Rel.nilf)) (
  Lf.AllOK.cons (Lf.TI.ok_mk (z := .nilFunc) (Lf.TK.ok_func (by kernel_rfl)) (by kernel_rfl) (fun _ => Lf.Rel.nilf)) (
  Lf.AllOK.cons (Lf.TI.ok_mk (z := .nilFunc) (Lf.TK.ok_func (by kernel_rfl)) (by kernel_rfl) (fun _ => Lf.Rel.nilf)) (
  Lf.AllOK.cons (Lf.TI.ok_mk (z := .nilFunc) (Lf.TK.ok_func (by kernel_rfl)) (by kernel_rfl) (fun _ => Lf.Rel.nilf)) (
  Lf.AllOK.cons (Lf.TI.ok_mk (z := .nilFunc) (Lf.TK.ok_func (by kernel_rfl)) (by kernel_rfl) (fun _ => Lf.Rel.nilf)) (
  Lf.AllOK.cons (Lf.TI.ok_mk (z := .nilFunc) (Lf.TK.ok_func (by kernel_rfl)) (by kernel_rfl) (fun _ => Lf.Rel.nilf)) (
  Lf.AllOK.cons (Lf.TI.ok_mk (z := .nilFunc) (Lf.TK.ok_func (by kernel_rfl)) (by kernel_rfl) (fun _ => Lf.Rel.nilf)) (
  Lf.AllOK.cons (Lf.TI.ok_mk (z := .nilFunc) (Lf.TK.ok_func (by kernel_rfl)) (by kernel_rfl) (fun _ => Lf.Rel.nilf)) (
  Lf.AllOK.cons (Lf.TI.ok_mk (z := .agg #[.string ⟨#[]⟩, .int .i64 0, .int .i64 0, .int .i64 0, .string ⟨#[]⟩, .slice none 0 0]) (Lf.TK.ok_struct (by kernel_rfl)) (by kernel_rfl) (fun _ => ⟨_, rfl, ⟨.str ⟨#[]⟩, .int _ _, .int _ _, .int _ _, .str ⟨#[]⟩, .slnil, trivial⟩⟩)) (
  Lf.AllOK.cons (Lf.TI.ok_mk (z := .agg #[.string ⟨#[]⟩, .int .i64 0, .int .i64 0, .int .i64 0, .string ⟨#[]⟩, .slice none 0 0]) (Lf.TK.ok_struct (by kernel_rfl)) (by kernel_rfl) (fun _ => ⟨_, rfl, ⟨.str ⟨#[]⟩, .int _ _, .int _ _, .int _ _, .str ⟨#[]⟩, .slnil, trivial⟩⟩)) (
  Lf.AllOK.cons (Lf.TI.ok_mk (z := .nilFunc) (Lf.TK.ok_func (by kernel_rfl)) (by kernel_rfl) (fun _ => Lf.Rel.nilf)) (
  Lf.AllOK.cons (Lf.TI.ok_mk (z := .nilFunc) (Lf.TK.ok_func (by kernel_rfl)) (by kernel_rfl) (fun _ => Lf.Rel.nilf)) (
  Lf.AllOK.cons (Lf.TI.ok_mk (z := .nilFunc) (Lf.TK.ok_func (by kernel_rfl)) (by kernel_rfl) (fun _ => Lf.Rel.nilf)) (
  Lf.AllOK.cons (Lf.TI.ok_mk (z := .nilFunc) (Lf.TK.ok_func (by kernel_rfl)) (by kernel_rfl) (fun _ => Lf.Rel.nilf)) (
  Lf.AllOK.cons (Lf.TI.ok_mk (z := .nilFunc) (Lf.TK.ok_func (by kernel_rfl)) (by kernel_rfl) (fun _ => Lf.Rel.nilf)) (
  Lf.AllOK.cons (Lf.TI.ok_mk (z := .nilFunc) (Lf.TK.ok_func (by kernel_rfl)) (by kernel_rfl) (fun _ => Lf.Rel.nilf)) (
  Lf.AllOK.cons (Lf.TI.ok_mk (z := .nilFunc) (Lf.TK.ok_func (by kernel_rfl)) (by kernel_rfl) (fun _ => Lf.Rel.nilf)) (
  Lf.AllOK.cons (Lf.TI.ok_mk (z := .nilFunc) (Lf.TK.ok_func (by kernel_rfl)) (by kernel_rfl) (fun _ => Lf.Rel.nilf)) (
  Lf.AllOK.cons (Lf.TI.ok_mk (z := .pointer none) ((by kernel_rfl : Tryz.prog.underlying 65 = _)) (by kernel_rfl) (fun _ => Lf.Rel.nilp)) (
  Lf.AllOK.cons (Lf.TI.ok_mk (z := .map none) ((by kernel_rfl : Tryz.prog.underlying 66 = _)) (by kernel_rfl) (fun _ => Lf.Rel.nilm)) (
  Lf.AllOK.cons (Lf.TI.ok_mk (z := .agg #[.slice none 0 0, .slice none 0 0, .slice none 0 0, .slice none 0 0, .slice none 0 0, .map none]) (Lf.TK.ok_struct (by kernel_rfl)) (by kernel_rfl) (fun _ => ⟨_, rfl, ⟨.slnil, .slnil, .slnil, .slnil, .slnil, .nilm, trivial⟩⟩)) (
  Lf.AllOK.cons (Lf.TI.ok_mk (z := .agg #[.slice none 0 0, .slice none 0 0, .slice none 0 0, .slice none 0 0, .slice none 0 0, .map none]) (Lf.TK.ok_struct (by kernel_rfl)) (by kernel_rfl) (fun _ => ⟨_, rfl, ⟨.slnil, .slnil, .slnil, .slnil, .slnil, .nilm, trivial⟩⟩)) (
  Lf.AllOK.cons (Lf.TI.ok_mk (z := .nilFunc) (Lf.TK.ok_func (by kernel_rfl)) (by kernel_rfl) (fun _ => Lf.Rel.nilf)) (
  Lf.AllOK.cons (Lf.TI.ok_mk (z := .nilFunc) (Lf.TK.ok_func (by kernel_rfl)) (by kernel_rfl) (fun _ => Lf.Rel.nilf)) (
  Lf.AllOK.cons (Lf.TI.ok_mk (z := .nilFunc) (Lf.TK.ok_func (by kernel_rfl)) (by kernel_rfl) (fun _ => Lf.Rel.nilf)) (
  Lf.AllOK.cons (Lf.TI.ok_mk (z := .nilFunc) (Lf.TK.ok_func (by kernel_rfl)) (by kernel_rfl) (fun _ => Lf.Rel.nilf)) (
  Lf.AllOK.cons (Lf.TI.ok_mk (z := .agg #[.slice none 0 0, .int .i64 0]) (Lf.TK.ok_struct (by kernel_rfl)) (by kernel_rfl) (fun _ => ⟨_, rfl, ⟨.slnil, .int _ _, trivial⟩⟩)) (
  Lf.AllOK.cons (Lf.TI.ok_mk (z := .agg #[.slice none 0 0, .int .i64 0]) (Lf.TK.ok_struct (by kernel_rfl)) (by kernel_rfl) (fun _ => ⟨_, rfl, ⟨.slnil, .int _ _, trivial⟩⟩)) (
  Lf.AllOK.cons (Lf.TI.ok_mk (z := .agg #[.slice none 0 0, .slice none 0 0]) (Lf.TK.ok_struct (by kernel_rfl)) (by kernel_rfl) (fun _ => ⟨_, rfl, ⟨.slnil, .slnil, trivial⟩⟩)) (
  Lf.AllOK.cons (Lf.TI.ok_mk (z := .agg #[.slice none 0 0, .slice none 0 0]) (Lf.TK.ok_struct (by kernel_rfl)) (by kernel_rfl) (fun _ => ⟨_, rfl, ⟨.slnil, .slnil, trivial⟩⟩)) (
  Lf.AllOK.cons (Lf.TI.ok_mk (z := .nilFunc) (Lf.TK.ok_func (by kernel_rfl)) (by kernel_rfl) (fun _ => Lf.Rel.nilf)) (
  Lf.AllOK.cons (Lf.TI.ok_mk (z := .nilFunc) (Lf.TK.ok_func (by kernel_rfl)) (by kernel_rfl) (fun _ => Lf.Rel.nilf)) (
  Lf.AllOK.cons (Lf.TI.ok_mk (z := .nilFunc) (Lf.TK.ok_func (by kernel_rfl)) (by kernel_rfl) (fun _ => Lf.Rel.nilf)) (
  Lf.AllOK.cons (Lf.TI.ok_mk (z := .nilFunc) (Lf.TK.ok_func (by kernel_rfl)) (by kernel_rfl) (fun _ => Lf.Rel.nilf)) (
  Lf.AllOK.cons (Lf.TI.ok_mk (z := .nilFunc) (Lf.TK.ok_func (by kernel_rfl)) (by kernel_rfl) (fun _ => Lf.Rel.nilf)) (
  Lf.AllOK.cons (Lf.TI.ok_mk (z := .nilFunc) (Lf.TK.ok_func (by kernel_rfl)) (by kernel_rfl) (fun _ => Lf.Rel.nilf)) (
  Lf.AllOK.cons (Lf.TI.ok_mk (z := .nilFunc) (Lf.TK.ok_func (by kernel_rfl)) (by kernel_rfl) (fun _ => Lf.Rel.nilf)) (
  Lf.AllOK.cons (Lf.TI.ok_mk (z := .nilFunc) (Lf.TK.ok_func (by kernel_rfl)) (by kernel_rfl) (fun _ => Lf.Rel.nilf)) (
  Lf.AllOK.cons (Lf.TI.ok_mk (z := .nilFunc) (Lf.TK.ok_func (by kernel_rfl)) (by kernel_rfl) (fun _ => Lf.Rel.nilf)) (
  Lf.AllOK.cons (Lf.TI.ok_mk (z := .nilFunc) (Lf.TK.ok_func (by kernel_rfl)) (by kernel_rfl) (fun _ => Lf.Rel.nilf)) (
  Lf.AllOK.cons (Lf.TI.ok_mk (z := .nilFunc) (Lf.TK.ok_func (by kernel_rfl)) (by kernel_rfl) (fun _ => Lf.Rel.nilf)) (
  Lf.AllOK.cons (Lf.TI.ok_mk (z := .nilFunc) (Lf.TK.ok_func (by kernel_rfl)) (by kernel_rfl) (fun _ => Lf.Rel.nilf)) (
  Lf.AllOK.cons (Lf.TI.ok_mk (z := .nilFunc) (Lf.TK.ok_func (by kernel_rfl)) (by kernel_rfl) (fun _ => Lf.Rel.nilf)) (
  Lf.AllOK.cons (Lf.TI.ok_mk (z := .nilFunc) (Lf.TK.ok_func (by kernel_rfl)) (by kernel_rfl) (fun _ => Lf.Rel.nilf)) (
  Lf.AllOK.cons (Lf.TI.ok_mk (z := .nilFunc) (Lf.TK.ok_func (by kernel_rfl)) (by kernel_rfl) (fun _ => Lf.Rel.nilf)) (
  Lf.AllOK.cons (Lf.TI.ok_mk (z := .nilFunc) (Lf.TK.ok_func (by kernel_rfl)) (by kernel_rfl) (fun _ => Lf.Rel.nilf)) (
  Lf.AllOK.cons (Lf.TI.ok_mk (z := .nilFunc) (Lf.TK.ok_func (by kernel_rfl)) (by kernel_rfl) (fun _ => Lf.Rel.nilf)) (
  Lf.AllOK.cons (Lf.TI.ok_mk (z := .nilFunc) (Lf.TK.ok_func (by kernel_rfl)) (by kernel_rfl) (fun _ => Lf.Rel.nilf)) (
  Lf.AllOK.cons (Lf.TI.ok_mk (z := .nilFunc) (Lf.TK.ok_func (by kernel_rfl)) (by kernel_rfl) (fun _ => Lf.Rel.nilf)) (
  Lf.AllOK.cons (Lf.TI.ok_mk (z := .nilFunc) (Lf.TK.ok_func (by kernel_rfl)) (by kernel_rfl) (fun _ => Lf.Rel.nilf)) (
  Lf.AllOK.cons (Lf.TI.ok_mk (z := .nilFunc) (Lf.TK.ok_func (by kernel_rfl)) (by kernel_rfl) (fun _ => Lf.Rel.nilf)) (
  Lf.AllOK.cons (Lf.TI.ok_mk (z := .nilFunc) (Lf.TK.ok_func (by kernel_rfl)) (by kernel_rfl) (fun _ => Lf.Rel.nilf)) (
  Lf.AllOK.cons (Lf.TI.ok_mk (z := .nilFunc) (Lf.TK.ok_func (by kernel_rfl)) (by kernel_rfl) (fun _ => Lf.Rel.nilf)) (
  Lf.AllOK.cons (Lf.TI.ok_mk (z := .nilFunc) (Lf.TK.ok_func (by kernel_rfl)) (by kernel_rfl) (fun _ => Lf.Rel.nilf)) (
  Lf.AllOK.cons (Lf.TI.ok_mk (z := .nilFunc) (Lf.TK.ok_func (by kernel_rfl)) (by kernel_rfl) (fun _ => Lf.Rel.nilf)) (
  Lf.AllOK.cons (Lf.TI.ok_mk (z := .nilFunc) (Lf.TK.ok_func (by kernel_rfl)) (by kernel_rfl) (fun _ => Lf.Rel.nilf)) (
  Lf.AllOK.cons (Lf.TI.ok_mk (z := .nilFunc) (Lf.TK.ok_func (by kernel_rfl)) (by kernel_rfl) (fun _ => Lf.Rel.nilf)) (
  Lf.AllOK.cons (Lf.TI.ok_mk (z := .nilFunc) (Lf.TK.ok_func (by kernel_rfl)) (by kernel_rfl) (fun _ => Lf.Rel.nilf)) (
  Lf.AllOK.cons (Lf.TI.ok_mk (z := .nilFunc) (Lf.TK.ok_func (by kernel_rfl)) (by kernel_rfl) (fun _ => Lf.Rel.nilf)) (
  Lf.AllOK.cons (Lf.TI.ok_mk (z := .nilFunc) (Lf.TK.ok_func (by kernel_rfl)) (by kernel_rfl) (fun _ => Lf.Rel.nilf)) (
  Lf.AllOK.cons (Lf.TI.ok_mk (z := .nilFunc) (Lf.TK.ok_func (by kernel_rfl)) (by kernel_rfl) (fun _ => Lf.Rel.nilf)) (
  Lf.AllOK.cons (Lf.TI.ok_mk (z := .nilFunc) (Lf.TK.ok_func (by kernel_rfl)) (by kernel_rfl) (fun _ => Lf.Rel.nilf)) (
  Lf.AllOK.cons (Lf.TI.ok_mk (z := .nilFunc) (Lf.TK.ok_func (by kernel_rfl)) (by kernel_rfl) (fun _ => Lf.Rel.nilf)) (
  Lf.AllOK.cons (Lf.TI.ok_mk (z := .nilFunc) (Lf.TK.ok_func (by kernel_rfl)) (by kernel_rfl) (fun _ => Lf.Rel.nilf)) (
  Lf.AllOK.cons (Lf.TI.ok_mk (z := .nilFunc) (Lf.TK.ok_func (by kernel_rfl)) (by kernel_rfl) (fun _ => Lf.Rel.nilf)) (
  Lf.AllOK.cons (Lf.TI.ok_mk (z := .nilFunc) (Lf.TK.ok_func (by kernel_rfl)) (by kernel_rfl) (fun _ => Lf.Rel.nilf)) (
  Lf.AllOK.cons (Lf.TI.ok_mk (z := .nilFunc) (Lf.TK.ok_func (by kernel_rfl)) (by kernel_rfl) (fun _ => Lf.Rel.nilf)) (
  Lf.AllOK.cons (Lf.TI.ok_mk (z := .nilFunc) (Lf.TK.ok_func (by kernel_rfl)) (by kernel_rfl) (fun _ => Lf.Rel.nilf)) (
  Lf.AllOK.cons (Lf.TI.ok_mk (z := .int .u64 0) ((by kernel_rfl : Tryz.prog.underlying 121 = _)) (by kernel_rfl) (fun _ => Lf.Rel.int _ _)) (
  Lf.AllOK.cons (Lf.TI.ok_mk (z := .int .u64 0) ((by kernel_rfl : Tryz.prog.underlying 122 = _)) (by kernel_rfl) (fun _ => Lf.Rel.int _ _)) (
  Lf.AllOK.cons (Lf.TI.ok_mk (z := .nilFunc) (Lf.TK.ok_func (by kernel_rfl)) (by kernel_rfl) (fun _ => Lf.Rel.nilf)) (
  Lf.AllOK.cons (Lf.TI.ok_mk (z := .nilFunc) (Lf.TK.ok_func (by kernel_rfl)) (by kernel_rfl) (fun _ => Lf.Rel.nilf)) (
  Lf.AllOK.cons (Lf.TI.ok_mk (z := .nilFunc) (Lf.TK.ok_func (by kernel_rfl)) (by kernel_rfl) (fun _ => Lf.Rel.nilf)) (
  Lf.AllOK.cons (Lf.TI.ok_mk (z := .nilFunc) (Lf.TK.ok_func (by kernel_rfl)) (by kernel_rfl) (fun _ => Lf.Rel.nilf)) (
  Lf.AllOK.cons (Lf.TI.ok_mk (z := .nilFunc) (Lf.TK.ok_func (by kernel_rfl)) (by kernel_rfl) (fun _ => Lf.Rel.nilf)) (
  Lf.AllOK.cons (Lf.TI.ok_mk (z := .nilFunc) (Lf.TK.ok_func (by kernel_rfl)) (by kernel_rfl) (fun _ => Lf.Rel.nilf)) (
  Lf.AllOK.cons (Lf.TI.ok_mk (z := .nilFunc) (Lf.TK.ok_func (by kernel_rfl)) (by kernel_rfl) (fun _ => Lf.Rel.nilf)) (
  Lf.AllOK.cons (Lf.TI.ok_mk (z := .nilFunc) (Lf.TK.ok_func (by kernel_rfl)) (by kernel_rfl) (fun _ => Lf.Rel.nilf)) (
  Lf.AllOK.cons (Lf.TI.ok_mk (z := .nilFunc) (Lf.TK.ok_func (by kernel_rfl)) (by kernel_rfl) (fun _ => Lf.Rel.nilf)) (
  Lf.AllOK.cons (Lf.TI.ok_mk (z := .nilFunc) (Lf.TK.ok_func (by kernel_rfl)) (by kernel_rfl) (fun _ => Lf.Rel.nilf)) (
  Lf.AllOK.cons (Lf.TI.ok_mk (z := .nilFunc) (Lf.TK.ok_func (by kernel_rfl)) (by kernel_rfl) (fun _ => Lf.Rel.nilf)) (
  Lf.AllOK.cons (Lf.TI.ok_mk (z := .nilFunc) (Lf.TK.ok_func (by kernel_rfl)) (by kernel_rfl) (fun _ => Lf.Rel.nilf)) (
  Lf.AllOK.cons (Lf.TI.ok_mk (z := .nilFunc) (Lf.TK.ok_func (by kernel_rfl)) (by kernel_rfl) (fun _ => Lf.Rel.nilf)) (
  Lf.AllOK.cons (Lf.TI.ok_mk (z := .nilFunc) (Lf.TK.ok_func (by kernel_rfl)) (by kernel_rfl) (fun _ => Lf.Rel.nilf)) (
  Lf.AllOK.cons (Lf.TI.ok_mk (z := .nilFunc) (Lf.TK.ok_func (by kernel_rfl)) (by kernel_rfl) (fun _ => Lf.Rel.nilf)) (
  Lf.AllOK.cons (Lf.TI.ok_mk (z := .nilFunc) (Lf.TK.ok_func (by kernel_rfl)) (by kernel_rfl) (fun _ => Lf.Rel.nilf)) (
  Lf.AllOK.cons (Lf.TI.ok_mk (z := .nilFunc) (Lf.TK.ok_func (by kernel_rfl)) (by kernel_rfl) (fun _ => Lf.Rel.nilf)) (
  Lf.AllOK.cons (Lf.TI.ok_mk (z := .nilFunc) (Lf.TK.ok_func (by kernel_rfl)) (by kernel_rfl) (fun _ => Lf.Rel.nilf)) (
  Lf.AllOK.cons (Lf.TI.ok_mk (z := .nilFunc) (Lf.TK.ok_func (by kernel_rfl)) (by kernel_rfl) (fun _ => Lf.Rel.nilf)) (
  Lf.AllOK.cons (Lf.TI.ok_mk (z := .nilFunc) (Lf.TK.ok_func (by kernel_rfl)) (by kernel_rfl) (fun _ => Lf.Rel.nilf)) (
  Lf.AllOK.cons (Lf.TI.ok_mk (z := .nilFunc) (Lf.TK.ok_func (by kernel_rfl)) (by kernel_rfl) (fun _ => Lf.Rel.nilf)) (
  Lf.AllOK.cons (Lf.TI.ok_mk (z := .nilFunc) (Lf.TK.ok_func (by kernel_rfl)) (by kernel_rfl) (fun _ => Lf.Rel.nilf)) (
  Lf.AllOK.cons (Lf.TI.ok_mk (z := .nilFunc) (Lf.TK.ok_func (by kernel_rfl)) (by kernel_rfl) (fun _ => Lf.Rel.nilf)) (
  Lf.AllOK.cons (Lf.TI.ok_mk (z := .nilFunc) (Lf.TK.ok_func (by kernel_rfl)) (by kernel_rfl) (fun _ => Lf.Rel.nilf)) (
  Lf.AllOK.cons (Lf.TI.ok_mk (z := .agg #[.pointer none, .pointer none, .pointer none, .string ⟨#[]⟩]) (Lf.TK.ok_struct (by kernel_rfl)) (by kernel_rfl) (fun _ => ⟨_, rfl, ⟨.nilp, .nilp, .nilp, .str ⟨#[]⟩, trivial⟩⟩)) (
  Lf.AllOK.cons (Lf.TI.ok_mk (z := .agg #[.pointer none, .pointer none, .pointer none, .string ⟨#[]⟩]) (Lf.TK.ok_struct (by kernel_rfl)) (by kernel_rfl) (fun _ => ⟨_, rfl, ⟨.nilp, .nilp, .nilp, .str ⟨#[]⟩, trivial⟩⟩)) (
  Lf.AllOK.cons (Lf.TI.ok_mk (z := .nilFunc) (Lf.TK.ok_func (by kernel_rfl)) (by kernel_rfl) (fun _ => Lf.Rel.nilf)) (
  Lf.AllOK.cons (Lf.TI.ok_mk (z := .int .u32 0) ((by kernel_rfl : Tryz.prog.underlying 154 = _)) (by kernel_rfl) (fun _ => Lf.Rel.int _ _)) (
  Lf.AllOK.cons (Lf.TI.ok_mk (z := .int .u8 0) ((by kernel_rfl : Tryz.prog.underlying 155 = _)) (by kernel_rfl) (fun _ => Lf.Rel.int _ _)) (
  Lf.AllOK.cons (Lf.TI.ok_mk (z := .int .u8 0) ((by kernel_rfl : Tryz.prog.underlying 156 = _)) (by kernel_rfl) (fun _ => Lf.Rel.int _ _)) (
  Lf.AllOK.cons (Lf.TI.ok_mk (z := .nilFunc) (Lf.TK.ok_func (by kernel_rfl)) (by kernel_rfl) (fun _ => Lf.Rel.nilf)) (
  Lf.AllOK.cons (Lf.TI.ok_mk (z := .pointer none) ((by kernel_rfl : Tryz.prog.underlying 158 = _)) (by kernel_rfl) (fun _ => Lf.Rel.nilp)) (
  Lf.AllOK.cons (Lf.TI.ok_mk (z := .int .i32 0) ((by kernel_rfl : Tryz.prog.underlying 159 = _)) (by kernel_rfl) (fun _ => Lf.Rel.int _ _)) (
  Lf.AllOK.cons (Lf.TI.ok_mk (z := .int .i32 0) ((by kernel_rfl : Tryz.prog.underlying 160 = _)) (by kernel_rfl) (fun _ => Lf.Rel.int _ _)) (
  Lf.AllOK.cons (Lf.TI.ok_mk (z := .agg #[.int .u64 0, .int .u64 0, .int .u32 0, .int .u8 0, .int .u8 0, .int .u8 0, .int .u8 0, .nilFunc, .pointer none, .int .i32 0, .int .i32 0]) (Lf.TK.ok_struct (by kernel_rfl)) (by kernel_rfl) (fun _ => ⟨_, rfl, ⟨.int _ _, .int _ _, .int _ _, .int _ _, .int _ _, .int _ _, .int _ _, .nilf, .nilp, .int _ _, .int _ _, trivial⟩⟩)) (
  Lf.AllOK.cons (Lf.TI.ok_mk (z := .agg #[.int .u64 0, .int .u64 0, .int .u32 0, .int .u8 0, .int .u8 0, .int .u8 0, .int .u8 0, .nilFunc, .pointer none, .int .i32 0, .int .i32 0]) (Lf.TK.ok_struct (by kernel_rfl)) (by kernel_rfl) (fun _ => ⟨_, rfl, ⟨.int _ _, .int _ _, .int _ _, .int _ _, .int _ _, .int _ _, .int _ _, .nilf, .nilp, .int _ _, .int _ _, trivial⟩⟩)) (
  Lf.AllOK.cons (Lf.TI.ok_mk (z := .agg #[.string ⟨#[]⟩, .int .i64 0, .int .i64 0, .int .i64 0, .string ⟨#[]⟩, .slice none 0 0, .int .i64 0]) (Lf.TK.ok_struct (by kernel_rfl)) (by kernel_rfl) (fun _ => ⟨_, rfl, ⟨.str ⟨#[]⟩, .int _ _, .int _ _, .int _ _, .str ⟨#[]⟩, .slnil, .int _ _, trivial⟩⟩)) (
  Lf.AllOK.cons (Lf.TI.ok_mk (z := .agg #[.string ⟨#[]⟩, .int .i64 0, .int .i64 0, .int .i64 0, .string ⟨#[]⟩, .slice none 0 0, .int .i64 0]) (Lf.TK.ok_struct (by kernel_rfl)) (by kernel_rfl) (fun _ => ⟨_, rfl, ⟨.str ⟨#[]⟩, .int _ _, .int _ _, .int _ _, .str ⟨#[]⟩, .slnil, .int _ _, trivial⟩⟩)) (
  Lf.AllOK.cons (Lf.TI.ok_mk (z := .agg #[.int .i64 0, .int .i64 0]) (Lf.TK.ok_struct (by kernel_rfl)) (by kernel_rfl) (fun _ => ⟨_, rfl, ⟨.int _ _, .int _ _, trivial⟩⟩)) (
  Lf.AllOK.cons (Lf.TI.ok_mk (z := .agg #[.int .i64 0, .int .i64 0]) (Lf.TK.ok_struct (by kernel_rfl)) (by kernel_rfl) (fun _ => ⟨_, rfl, ⟨.int _ _, .int _ _, trivial⟩⟩)) (
  Lf.AllOK.nil)))))))))))))))))))))))))))))))))))))))))))))))))))))))))))))))))))))))))))))))))))))))))))))))))))))))))))))))))))))))))))))))))))))))))))))))))))))))))))
theorem mixed : Tryz.prog.follows .mixedOrders = true := by kernel_rfl
end Go.Proofs.YtjedkgogjehigaaGreat
end
section
set_option linter.unusedVariables false
set_option linter.unusedSimpArgs false
set_option linter.unusedSectionVars false
namespace Lf
open Go Go.RowKit
section
variable {P : Program} {G : Ghost} {n0 : Nat} {env : List (Nat × (Prop × AV))} {bl : List (Nat × Blk)} {p : Prop} {dst : Option Nat} {ty : TypeId} {pos : String} {after : Array Edge} {gd : Option (Nat × Bool)}
theorem run_bound {w : World} {k : IntKind} {n : Int} {m : Nat} {c : BoundsCode} (h : 0 ≤ n ∧ n ≤ m) : (Instr.sliceBound (.int k n) m c).run P w = .ok n.toNat w := by
  simp [Instr.sliceBound, asIntOf, h.1, h.2]
variable {T : TT} (hT : TOK P T)
include hT
end
end Lf
end
section
set_option linter.unusedVariables false
set_option linter.unusedSimpArgs false
set_option linter.unusedSectionVars false
namespace Lf
open Go Go.RowKit
inductive RV where
  | tmp (t : Nat)
  | cell (t ty : Nat)
def RV.var : RV → ResultVar
  | .tmp t => .tmp t
  | .cell t ty => .cell t ty
section
variable {P : Program} {G : Ghost} {A : St} {Φ : Frz} {β : Own} {a : Act} {w w' : World} {T : TT}
def ResM (T : TT) (A : St) : List RV → List PV → Prop
  | [], [] => True
  | .tmp t :: rs, q :: qs => (∃ av r, lk A.env t = some (True, av) ∧ toPV A.blks av = some r ∧ PSub r q) ∧ ResM T A rs qs
  | .cell t ty :: rs, q :: qs => (∃ ti m cs, T ty = some ti ∧ ti.kind.isAgg = some true ∧ lk A.env t = some (True, .addr m 0 0) ∧ lk A.blks m = some ⟨ty, ti.sz, [cs]⟩ ∧ PSub (.agg cs) q) ∧ ResM T A rs qs
  | _, _ => False
theorem ResM.nil : ResM T A [] [] := trivial
theorem ResM.tmp {t : Nat} {rs : List RV} {q r : PV} {qs : List PV} {av : AV} (h : lk A.env t = some (True, av)) (hv : toPV A.blks av = some r) (hs : PSub r q) (ht : ResM T A rs qs) : ResM T A (.tmp t :: rs) (q :: qs) := ⟨⟨av, r, h, hv, hs⟩, ht⟩
theorem ResM.cell {t ty m : Nat} {ti : TI} {rs : List RV} {q : PV} {cs : List Cell} {qs : List PV} (h1 : T ty = some ti) (h2 : ti.kind.isAgg = some true) (h : lk A.env t = some (True, .addr m 0 0)) (hv : lk A.blks m = some ⟨ty, ti.sz, [cs]⟩) (hs : PSub (.agg cs) q) (ht : ResM T A rs qs) : ResM T A (.cell t ty :: rs) (q :: qs) := ⟨⟨ti, m, cs, h1, h2, h, hv, hs⟩, ht⟩
def FinM (T : TT) (rs : List RV) (qs : List PV) (e : Exit) (A : St) : Prop := (e = .normal ∨ e = .ret) ∧ ResM T A rs qs
theorem FinM.ret {rs : List RV} {qs : List PV} (h : ResM T A rs qs) : FinM T rs qs .ret A := ⟨.inr rfl, h⟩
theorem run_cell (hT : TOK P T) (hs : Sat G Φ β A a w) {t ty m : Nat} {ti : TI} {cs : List Cell} (hty : T ty = some ti) (hag : ti.kind.isAgg = some true) (h1 : lk A.env t = some (True, .addr m 0 0)) (h2 : lk A.blks m = some ⟨ty, ti.sz, [cs]⟩) :
    ∃ v, (asAddr (a.tmps.getD t undef) >>= loadVar ty).run P w = .ok v w ∧ PRel Φ v (.agg cs) := by
  obtain ⟨b, cap, B, k1, k2, hob, k3⟩ := (hs.env t True _ h1).1 trivial
  rw [h2] at k2
  obtain rfl := Option.some.inj k2
  obtain ⟨cur, g1, g2, g3, g4, g5, g6⟩ := (hs.blk m _ b cap h2 k1).1.cells hob
  have hlen : cs.length = ti.sz := g5 cs (by simp)
  have hcell : ∀ j, j < ti.sz → w.cell? ⟨b, 0 + j, none⟩ = some ((cur[j]?).getD undef) := fun j hj => by
    obtain ⟨v, q1, q2⟩ := g6 0 j cs (cs[j]'(by omega)) rfl (List.getElem?_eq_getElem _)
    simp only [Nat.zero_mul, Nat.zero_add] at q1 ⊢
    rw [cell_of_row w b _ cur _ (0, 0) g1, q1]; rfl
  have hload := run_loadCells (P := P) w ⟨b, 0, none⟩ ti.sz (fun j => (cur[j]?).getD undef) (fun j hj => by rw [Addr.add_lit]; exact hcell j hj)
  refine ⟨.agg ((List.range ti.sz).map fun j => (cur[j]?).getD undef).toArray, ?_, _, rfl, ?_⟩
  · have e1 : a.tmps.getD t undef = .pointer (some ⟨b, 0, none⟩) := by rw [k3]; simp
    rw [e1]
    simp [asAddr, loadVar, run_isAgg hT hty hag, run_sizeOf hT hty, hload]
  · rw [← hlen]
    refine relL_range fun j c hj => ?_
    obtain ⟨v, q1, q2⟩ := g6 0 j cs c rfl hj
    simp only [Nat.zero_mul, Nat.zero_add] at q1
    rw [q1]; exact q2
theorem resm_run (hT : TOK P T) {f : ResultVar → Sem Value} (hs : Sat G Φ β A a w) (hf1 : ∀ t, f (.tmp t) = pure (a.tmps.getD t undef)) (hf2 : ∀ t ty, f (.cell t ty) = (asAddr (a.tmps.getD t undef) >>= loadVar ty)) :
    ∀ {rs : List RV} {qs : List PV}, ResM T A rs qs → ∃ vs : List Value, ((rs.map RV.var).mapM f).run P w = .ok vs w ∧ vs.length = qs.length ∧ ∀ (j : Nat) (q : PV), qs[j]? = some q → ∃ v, vs[j]? = some v ∧ PRel (frzAll Φ β A.blks w) v q
  | [], [], _ => ⟨[], rfl, rfl, fun j q h => by simp at h⟩
  | .tmp t :: rs, q0 :: qs, ⟨⟨av, r, h1, h2, h3⟩, h⟩ => by
    obtain ⟨vs, e1, e2, e3⟩ := resm_run hT hs hf1 hf2 h
    refine ⟨a.tmps.getD t undef :: vs, ?_, by simp [e2], fun j q hq => ?_⟩
    · simp only [List.map_cons, List.mapM_cons, RV.var, hf1, pure_bind, Sem.run_bind, e1]
      rfl
    · cases j with
      | zero => simp at hq; subst hq; exact ⟨_, rfl, (hs.toPV ((hs.env t True av h1).1 trivial) h2).sub h3⟩
      | succ j => simpa using e3 j q (by simpa using hq)
  | .cell t ty :: rs, q0 :: qs, ⟨⟨ti, m, cs, h1, h2, h3, h4, h5⟩, h⟩ => by
    obtain ⟨vs, e1, e2, e3⟩ := resm_run hT hs hf1 hf2 h
    obtain ⟨v, k1, k2⟩ := run_cell hT hs h1 h2 h3 h4
    refine ⟨v :: vs, ?_, by simp [e2], fun j q hq => ?_⟩
    · rw [List.map_cons, List.mapM_cons, RV.var, hf2, Sem.run_bind, k1]
      simp only [Result.andThen, Sem.run_bind, e1]
      rfl
    · cases j with
      | zero => simp at hq; subst hq; exact ⟨_, rfl, (k2.mono hs.frz_le).sub h5⟩
      | succ j => simpa using e3 j q (by simpa using hq)
/-- The call, out of the walk of its body. -/
theorem calls_mix (hT : TOK P T) {f : FuncId} {fn : Func} {c : Code} {args qs : List PV} (rs : List RV) (hf : P.funcs[f]? = some fn) (hb : fn.body = some c)
    (hr : fn.results = (rs.map RV.var).toArray) {Φ : Frz} {w : World} {vs : Array Value} (hfit : Fits Φ w) (harg : ArgsRel Φ vs args)
    (h : W P { w0 := w, K := fun b => b < w.heap.size, F0 := Φ, lt := fun b h => h } c (FinM T rs qs) (St.init fn.ntmps args)) :
    Calls P f vs w (fun e w' => ∃ v Φ', e = .returned v ∧ AVRel Φ' (fun _ => none) [] v (ofRes qs) ∧ Φ.le Φ' ∧ (∀ b, b < w.heap.size → Φ' b = Φ b) ∧ Fits Φ' w' ∧ Below w.heap.size w w') := by
  refine calls_of_wp hf hb (wp_mono (h Φ (fun _ => none) _ w (sat_init (f := f) rfl hfit harg)) fun e a' w' ⟨A', Φ', β', ⟨he, hres⟩, hs, hle⟩ => ?_)
  have hv : a'.defers = [] ∧ ∃ v, (results fn a'.tmps).run P w' = .ok v w' ∧ (∃ v1 Φ'', Ending.returned v = .returned v1 ∧ AVRel Φ'' (fun _ => none) [] v1 (ofRes qs) ∧ Φ.le Φ'' ∧ (∀ b, b < w.heap.size → Φ'' b = Φ b) ∧ Fits Φ'' w' ∧ Below w.heap.size w w') := by
    obtain ⟨vl, e1, e2, e3⟩ := resm_run hT hs (f := fun
      | .tmp t => pure (a'.tmps.getD t undef)
      | .cell t ty => do loadVar ty (← asAddr (a'.tmps.getD t undef))) (fun t => rfl) (fun t ty => rfl) hres
    have hrest : Φ.le (frzAll Φ' β' A'.blks w') ∧ (∀ b, b < w.heap.size → frzAll Φ' β' A'.blks w' b = Φ b) ∧ Fits (frzAll Φ' β' A'.blks w') w' ∧ Below w.heap.size w w' := by
      refine ⟨Frz.le_trans hle hs.frz_le, fun b hb => ?_, hs.frz_fits, ⟨hs.kept.os, hs.kept.tape, hs.kept.output, hs.kept.size, hs.kept.block⟩⟩
      have hno : ¬ ownedBy β' A'.blks b := fun ⟨n, B, cap, h1, h2⟩ => (hs.blk n B b cap h1 h2).2.1 hb
      unfold frzAll
      rw [if_neg hno]
      exact hs.old b hb
    refine ⟨hs.dfr, ?_⟩
    match vl, qs, e1, e2, e3 with
    | [], [], e1, _, e3 =>
      refine ⟨.tuple #[], ?_, _, _, rfl, ⟨#[], rfl, rfl, fun j p h => by simp at h⟩, hrest⟩
      unfold results; rw [hr, List.mapM_toArray, bind_map_left, Sem.run_bind]; erw [e1]; rfl
    | [v], [q], e1, _, e3 =>
      obtain ⟨v', h1, h2⟩ := e3 0 q rfl
      simp at h1; subst h1
      refine ⟨v, ?_, _, _, rfl, h2, hrest⟩
      unfold results; rw [hr, List.mapM_toArray, bind_map_left, Sem.run_bind]; erw [e1]; rfl
    | v :: v2 :: vs', q :: q2 :: qs', e1, e2, e3 =>
      refine ⟨.tuple (v :: v2 :: vs').toArray, ?_, _, _, rfl, ⟨_, rfl, by simpa using e2, fun j p hp => ?_⟩, hrest⟩
      · unfold results; rw [hr, List.mapM_toArray, bind_map_left, Sem.run_bind]; erw [e1]; rfl
      · obtain ⟨v', h1, h2⟩ := e3 j p hp
        exact ⟨v', by simpa using h1, h2⟩
  rcases he with rfl | rfl
  · exact hv
  · exact hv
theorem ACalls.of_M (hT : TOK P T) {f : FuncId} {fn : Func} {c : Code} {args qs : List PV} (rs : List RV) (n : Nat) (hf : P.funcs[f]? = some fn) (hn : (fn.name == "runtime.NumGoroutine") = false) (hb : fn.body = some c)
    (hr : fn.results = (rs.map RV.var).toArray) (hnt : fn.ntmps = n) (h : ∀ G, W P G c (FinM T rs qs) (St.init n args)) : ACalls P f args (ofRes qs) where
  fn := ⟨fn, hf, hn, by rw [hb]; rfl⟩
  calls := fun Φ w vs hfit harg => by subst hnt; exact calls_mix hT rs hf hb hr hfit harg (h _)
end
end Lf
end
section
set_option linter.unusedVariables false
set_option linter.unusedSimpArgs false
set_option linter.unusedSectionVars false
namespace Lf
open Go Go.RowKit
/-- the world behind a call that may turn block b -/
structure BelowX (b n : Nat) (w w' : World) : Prop where
  os : w'.os = w.os
  tape : w'.tape = w.tape
  output : w'.output = w.output
  size : w.heap.size ≤ w'.heap.size
  block : ∀ c, c < n → c ≠ b → w'.heap[c]? = w.heap[c]?
section
variable {P : Program} {G : Ghost} {A : St} {Φ : Frz} {β : Own} {a : Act} {w w' : World}
/-- all own blocks but m become memory that does not turn any more -/
def dropB (m : Nat) (bl : List (Nat × Blk)) : List (Nat × Blk) := bl.filter fun x => !Nat.beq x.1 m
theorem lk_dropB (m : Nat) : ∀ (bl : List (Nat × Blk)) (k : Nat), lk (dropB m bl) k = if k = m then none else lk bl k
  | [], k => by simp [dropB, lk]
  | (t, B) :: r, k => by
    have ih := lk_dropB m r k
    simp only [dropB, List.filter_cons] at ih ⊢
    cases hb : Nat.beq t m with
    | true =>
      have e : t = m := Nat.eq_of_beq_eq_true hb
      simp only [Bool.not_true, Bool.false_eq_true, if_false]
      rw [ih, lk_cons]
      by_cases h : k = m
      · simp [h]
      · rw [if_neg h, if_neg h, if_neg (by omega)]
    | false =>
      have e : t ≠ m := fun e => by subst e; simp at hb
      simp only [Bool.not_false, if_true]
      rw [lk_cons, lk_cons, ih]
      by_cases h : t = k
      · rw [if_pos h, if_pos h, if_neg (by omega)]
      · rw [if_neg h, if_neg h]
def frzVX (m : Nat) (bl : List (Nat × Blk)) : AV → AV
  | .itr d n => .top
  | .mp n => .top
  | v => bif v.ment m then v else frzV bl v
def frzX (m : Nat) (bl : List (Nat × Blk)) : List (Nat × (Prop × AV)) → List (Nat × (Prop × AV))
  | [] => []
  | (t, (q, v)) :: r => (t, (q, frzVX m bl v)) :: frzX m bl r
theorem lk_frzX (m : Nat) (bl : List (Nat × Blk)) : ∀ (env : List (Nat × (Prop × AV))) (t : Nat) (q : Prop) (v : AV), lk (frzX m bl env) t = some (q, v) → ∃ v', lk env t = some (q, v') ∧ v = frzVX m bl v'
  | [], t, q, v, h => by simp [frzX, lk] at h
  | (s, (q0, v0)) :: r, t, q, v, h => by
    rw [frzX, lk_cons] at h
    rw [lk_cons]
    split at h
    · rename_i e
      simp only [Option.some.injEq, Prod.mk.injEq] at h
      rw [if_pos e]
      exact ⟨v0, by rw [h.1], h.2.symm⟩
    · rename_i e
      rw [if_neg e]
      exact lk_frzX m bl r t q v h
theorem toPV_drop {m : Nat} {bl : List (Nat × Blk)} {v : AV} (h : v.ment m = false) : toPV (dropB m bl) v = toPV bl v := by
  cases v with
  | slc n =>
    have e : n ≠ m := fun e => by subst e; simp [AV.ment] at h
    simp only [toPV, lk_dropB, if_neg e]
  | addr n i off =>
    have e : n ≠ m := fun e => by subst e; simp [AV.ment] at h
    simp only [toPV, lk_dropB, if_neg e]
  | _ => rfl
theorem AVRel.drop {m : Nat} {v : Value} {x : AV} (h : AVRel Φ β A.blks v x) (hm : x.ment m = false) : AVRel Φ β (dropB m A.blks) v x := by
  have hl : ∀ k, k ≠ m → lk (dropB m A.blks) k = lk A.blks k := fun k hk => by rw [lk_dropB, if_neg hk]
  cases x with
  | pv p => exact h
  | tup l => exact h
  | top => trivial
  | addr n i off =>
    have e : n ≠ m := fun e => by subst e; simp [AV.ment] at hm
    obtain ⟨b', cap', B', g1, g2, g3⟩ := h
    exact ⟨b', cap', B', g1, by rw [hl n e]; exact g2, g3⟩
  | slc n =>
    have e : n ≠ m := fun e => by subst e; simp [AV.ment] at hm
    obtain ⟨B', g2, g3⟩ := h
    exact ⟨B', by rw [hl n e]; exact g2, g3⟩
  | pin n b c f =>
    have e : n ≠ m := fun e => by subst e; simp [AV.ment] at hm
    obtain ⟨B', g1, g2, g3⟩ := h
    exact ⟨B', g1, by rw [hl n e]; exact g2, g3⟩
  | mp n =>
    have e : n ≠ m := fun e => by subst e; simp [AV.ment] at hm
    obtain ⟨b', cap', B', g1, g2, g3⟩ := h
    exact ⟨b', cap', B', g1, by rw [hl n e]; exact g2, g3⟩
  | mpn n bb =>
    have e : n ≠ m := fun e => by subst e; simp [AV.ment] at hm
    obtain ⟨b', cap', B', g1, g2, g3⟩ := h
    exact ⟨b', cap', B', g1, by rw [hl n e]; exact g2, g3⟩
  | itr d n =>
    have e : n ≠ m := fun e => by subst e; simp [AV.ment] at hm
    have e' : d ≠ m := fun e => by subst e; simp [AV.ment] at hm
    obtain ⟨b', cap', B', M, c, g1, g2, g3, g4, g5, g6⟩ := h
    exact ⟨b', cap', B', M, c, g1, by rw [hl d e']; exact g2, g3, g4, by rw [hl n e]; exact g5, g6⟩
theorem freezeX_sat {m : Nat} {B : Blk} (hm : lk A.blks m = some B) (hs : Sat G Φ β A a w) : ∃ Φ' β', Φ.le Φ' ∧ Sat G Φ' β' { A with env := frzX m A.blks A.env, blks := [(m, B)] } a w ∧ β' m = β m ∧
    ∀ (v : Value) (n : Nat) (C : Blk) (q : PV), lk A.blks n = some C → n ≠ m → AVRel Φ β A.blks v (.slc n) → toPV A.blks (.slc n) = some q → PRel Φ' v q := by
  have hs1 : Sat G Φ β ⟨A.n, [], dropB m A.blks⟩ a w := by
    refine ⟨hs.kept, hs.fits, hs.old, hs.siz, hs.dfr, fun t q v h => by simp [lk] at h, fun n C b cap h1 h2 => ?_, fun n C h1 h2 => ?_, fun n n' C C' b c c' h1 h2 h3 h4 => ?_⟩
    · simp only [lk_dropB] at h1; split at h1
      · cases h1
      · exact hs.blk n C b cap h1 h2
    · simp only [lk_dropB] at h1; split at h1
      · cases h1
      · exact hs.vir n C h1 h2
    · simp only [lk_dropB] at h1 h2; split at h1
      · cases h1
      · split at h2
        · cases h2
        · exact hs.inj n n' C C' b c c' h1 h2 h3 h4
  have hno : ∀ b cap, β m = some (b, cap) → ¬ ownedBy β (dropB m A.blks) b := fun b cap h1 ⟨n, C, c', k1, k2⟩ => by
    rw [lk_dropB] at k1; split at k1
    · cases k1
    · rename_i e; exact e (hs.inj n m C B b c' cap k1 hm k2 h1)
  have hs1' : Sat G Φ β ⟨A.n, [], dropB m A.blks⟩ a w := hs1
  refine ⟨frzAll Φ β (dropB m A.blks) w, fun k => if k = m then β m else none, hs1.frz_le, ⟨hs.kept, hs1.frz_fits, fun b hk => ?_, hs.siz, hs.dfr, fun t q v h => ?_, fun n C b cap h1 h2 => ?_, fun n C h1 h2 => ?_, fun n n' C C' b c c' h1 h2 h3 h4 => ?_⟩, by simp, fun v n C q k1 k2 k3 k4 => ?_⟩
  · have hn : ¬ ownedBy β (dropB m A.blks) b := fun ⟨n, C, cap, h1, h2⟩ => (hs1.blk n C b cap h1 h2).2.1 hk
    unfold frzAll
    rw [if_neg hn]
    exact hs.old b hk
  · obtain ⟨v', h1, rfl⟩ := lk_frzX _ _ _ _ _ _ h
    refine ⟨fun hq => ?_, (hs.env t q v' h1).2⟩
    have h3 := (hs.env t q v' h1).1 hq
    have frz : v'.ment m = false → AVRel (frzAll Φ β (dropB m A.blks) w) (fun k => if k = m then β m else none) [(m, B)] (a.tmps.getD t undef) (frzV A.blks v') := fun hmt => by
      have h5 := h3.drop hmt
      have e : frzV A.blks v' = frzV (dropB m A.blks) v' := by
        cases v' <;> simp only [frzV, toPV_drop hmt]
      rw [e]
      cases v' with
      | tup l => exact h3.mono hs1.frz_le
      | pv p => exact PRel.mono hs1.frz_le h3
      | top => trivial
      | mp n => trivial
      | mpn n bb => trivial
      | itr d n => trivial
      | pin n b c f => trivial
      | addr n i off =>
        simp only [frzV]
        cases hq' : toPV (dropB m A.blks) (.addr n i off) with
        | none => trivial
        | some p => exact hs1.toPV h5 hq'
      | slc n =>
        simp only [frzV]
        cases hq' : toPV (dropB m A.blks) (.slc n) with
        | none => trivial
        | some p => exact hs1.toPV h5 hq'
    cases v' with
    | mp n => trivial
    | mpn n bb =>
      simp only [frzVX]
      cases hmt : (AV.mpn n bb).ment m with
      | false => exact frz hmt
      | true =>
        have e : n = m := Nat.eq_of_beq_eq_true hmt
        subst e
        obtain ⟨b', cap', B', g1, g2, g3⟩ := h3
        rw [hm] at g2; obtain rfl := Option.some.inj g2
        exact ⟨b', cap', B, by simp [g1], by rw [lk_cons, if_pos rfl], g3⟩
    | itr d n => trivial
    | tup l => exact frz rfl
    | pv p => exact frz rfl
    | top => exact frz rfl
    | addr n i off =>
      simp only [frzVX]
      cases hmt : (AV.addr n i off).ment m with
      | false => exact frz hmt
      | true =>
        have e : n = m := Nat.eq_of_beq_eq_true hmt
        subst e
        obtain ⟨b', cap', B', g1, g2, g3⟩ := h3
        rw [hm] at g2; obtain rfl := Option.some.inj g2
        exact ⟨b', cap', B, by simp [g1], by rw [lk_cons, if_pos rfl], g3⟩
    | slc n =>
      simp only [frzVX]
      cases hmt : (AV.slc n).ment m with
      | false => exact frz hmt
      | true =>
        have e : n = m := Nat.eq_of_beq_eq_true hmt
        subst e
        obtain ⟨B', g2, g3⟩ := h3
        rw [hm] at g2; obtain rfl := Option.some.inj g2
        exact ⟨B, by rw [lk_cons, if_pos rfl], by simpa using g3⟩
    | pin n b c f =>
      simp only [frzVX]
      cases hmt : (AV.pin n b c f).ment m with
      | false => exact frz hmt
      | true =>
        have e : n = m := Nat.eq_of_beq_eq_true hmt
        subst e
        obtain ⟨B', g1, g2, g3⟩ := h3
        rw [hm] at g2; obtain rfl := Option.some.inj g2
        exact ⟨B, by simp [g1], by rw [lk_cons, if_pos rfl], g3⟩
  · rw [lk_cons] at h1
    split at h1
    · rename_i e; subst e
      obtain rfl := Option.some.inj h1
      simp only [if_true] at h2
      obtain ⟨k1, k2, k3⟩ := hs.blk m B b cap hm h2
      refine ⟨k1.keep hs1.frz_le rfl, k2, ?_⟩
      unfold frzAll
      rw [if_neg (hno b cap h2)]
      exact k3
    · simp [lk] at h1
  · rw [lk_cons] at h1
    split at h1
    · rename_i e; subst e
      obtain rfl := Option.some.inj h1
      simp only [if_true] at h2
      exact hs.vir m B hm h2
    · simp [lk] at h1
  · rw [lk_cons] at h1 h2
    split at h1
    · rename_i e; split at h2
      · rename_i e'; rw [← e, ← e']
      · simp [lk] at h2
    · simp [lk] at h1
  · have hmt : (AV.slc n).ment m = false := by
      cases hb : (AV.slc n).ment m with
      | false => rfl
      | true => exact absurd (Nat.eq_of_beq_eq_true hb) k2
    exact hs1'.toPV (k3.drop hmt) (by rw [toPV_drop hmt]; exact k4)
theorem Le.freezeX {m : Nat} {B : Blk} (hm : lk A.blks m = some B) : Le A { A with env := frzX m A.blks A.env, blks := [(m, B)] } := fun G Φ β a w hs => by
  obtain ⟨Φ', β', h1, h2, _⟩ := freezeX_sat hm hs
  exact ⟨Φ', β', h1, h2⟩
/-- The results, as1 data. -/
def ResD (A : St) : List Nat → List PV → Prop
  | [], [] => True
  | t :: ts, q :: qs => (∃ r, lk A.env t = some (True, .pv r) ∧ PSub r q) ∧ ResD A ts qs
  | _, _ => False
theorem ResD.nil : ResD A [] [] := trivial
theorem ResD.cons {t : Nat} {ts : List Nat} {q r : PV} {qs : List PV} (h : lk A.env t = some (True, .pv r)) (hs : PSub r q) (ht : ResD A ts qs) : ResD A (t :: ts) (q :: qs) := ⟨⟨r, h, hs⟩, ht⟩
theorem resd_get (hs : Sat G Φ β A a w) : ∀ {ts : List Nat} {qs : List PV}, ResD A ts qs → ∀ (j : Nat) (q : PV), qs[j]? = some q → ∃ t, ts[j]? = some t ∧ PRel Φ (a.tmps.getD t undef) q
  | [], [], _, j, q, h => by simp at h
  | t :: ts, q0 :: qs, ⟨⟨r, h1, h3⟩, _⟩, 0, q, h => by
    simp at h; subst h
    exact ⟨t, rfl, PRel.sub ((hs.env t True _ h1).1 trivial) h3⟩
  | x :: xs, q0 :: qs, h, j + 1, q, hq => by simpa using resd_get hs h.2 j q (by simpa using hq)
theorem resd_len : ∀ {ts : List Nat} {qs : List PV}, ResD A ts qs → ts.length = qs.length
  | [], [], _ => rfl
  | _ :: _, _ :: _, h => by simp [resd_len h.2]
theorem ob_lt {E sz : Nat} {rows : List (List Cell)} (h : Nat.ble mapTag E = false) : (⟨E, sz, rows⟩ : Blk).ob = false := h
/-- an own block is lent, and turned -/
theorem AVRel.turn {n : Nat} {B : Blk} {rows : List (List Cell)} (h1 : lk A.blks n = some B) (hob : B.ob = false) (hlen : rows.length = B.rows.length) {v : Value} {x : AV} (h : AVRel Φ β A.blks v x) : AVRel Φ β ((n, { B with rows := rows }) :: A.blks) v x := by
  have hl : ∀ m, m ≠ n → lk ((n, { B with rows := rows }) :: A.blks) m = lk A.blks m := fun m hm => by rw [lk_cons, if_neg (Ne.symm hm)]
  cases x with
  | pv p => exact h
  | tup l => exact h
  | top => trivial
  | addr m i off =>
    obtain ⟨b', cap', B', k1, k2, k3⟩ := h
    by_cases e : m = n
    · subst e
      obtain rfl : B = B' := by rw [h1] at k2; exact Option.some.inj k2
      exact ⟨b', cap', { B with rows := rows }, k1, by rw [lk_cons, if_pos rfl], k3⟩
    · exact ⟨b', cap', B', k1, by rw [hl m e]; exact k2, k3⟩
  | pin m b0 c0 f =>
    obtain ⟨B', k1, k2, k3⟩ := h
    by_cases e : m = n
    · subst e
      obtain rfl : B = B' := by rw [h1] at k2; exact Option.some.inj k2
      exact ⟨{ B with rows := rows }, k1, by rw [lk_cons, if_pos rfl], k3.1, by simp only [hlen]; exact k3.2⟩
    · exact ⟨B', k1, by rw [hl m e]; exact k2, k3⟩
  | slc m =>
    obtain ⟨B', k1, k2⟩ := h
    by_cases e : m = n
    · subst e
      obtain rfl : B = B' := by rw [h1] at k1; exact Option.some.inj k1
      refine ⟨{ B with rows := rows }, by rw [lk_cons, if_pos rfl], k2.1, ?_⟩
      simp only [hlen]; exact k2.2
    · exact ⟨B', by rw [hl m e]; exact k1, k2⟩
  | mp m =>
    obtain ⟨b', cap', B', k1, k2, k3, k4⟩ := h
    have e : m ≠ n := fun e => by
      subst e; rw [h1] at k2; obtain rfl := Option.some.inj k2; rw [ob_map k3] at hob; cases hob
    exact ⟨b', cap', B', k1, by rw [hl m e]; exact k2, k3, k4⟩
  | mpn m bb =>
    obtain ⟨b', cap', B', k1, k2, k3, k4⟩ := h
    have e : m ≠ n := fun e => by
      subst e; rw [h1] at k2; obtain rfl := Option.some.inj k2; rw [ob_map k3] at hob; cases hob
    exact ⟨b', cap', B', k1, by rw [hl m e]; exact k2, k3, k4⟩
  | itr d m =>
    obtain ⟨b', cap', B', M, c, k1, k2, k3, k4, k5, k6, k7⟩ := h
    have e : m ≠ n := fun e => by
      subst e; rw [h1] at k5; obtain rfl := Option.some.inj k5; rw [ob_map k6] at hob; cases hob
    have e' : d ≠ n := fun e => by
      subst e; rw [h1] at k2; obtain rfl := Option.some.inj k2; rw [ob_iter k3] at hob; cases hob
    exact ⟨b', cap', B', M, c, k1, by rw [hl d e']; exact k2, k3, k4, by rw [hl m e]; exact k5, k6, k7⟩
theorem Sat.lend {Φ' : Frz} (hs : Sat G Φ β A a w) {n b cap : Nat} {B : Blk} {rows : List (List Cell)} (h1 : lk A.blks n = some B) (h2 : β n = some (b, cap)) (hob : B.ob = false) (hlen : rows.length = B.rows.length)
    (hle : Φ.le Φ') (heq : ∀ c, c < w.heap.size → Φ' c = Φ c) (hf : Fits Φ' w') (hb : BlkRel Φ' w' b cap { B with rows := rows }) (hx : BelowX b w.heap.size w w') : Sat G Φ' β { A with blks := (n, { B with rows := rows }) :: A.blks } a w' := by
  obtain ⟨g1, g2, g3⟩ := hs.blk n B b cap h1 h2
  have hne : ∀ c, G.K c → c ≠ b := fun c hk e => g2 (e ▸ hk)
  refine ⟨⟨hx.os.trans hs.kept.os, hx.tape.trans hs.kept.tape, hx.output.trans hs.kept.output, Nat.le_trans hs.kept.size hx.size, fun c hk => (hx.block c (Nat.lt_of_lt_of_le (G.lt c hk) hs.kept.size) (hne c hk)).trans (hs.kept.block c hk)⟩, hf,
    fun c hk => (heq c (Nat.lt_of_lt_of_le (G.lt c hk) hs.kept.size)).trans (hs.old c hk), hs.siz, hs.dfr, fun t q v h => ⟨fun hq => (((hs.env t q v h).1 hq).mono hle).turn h1 hob hlen, (hs.env t q v h).2⟩, fun m C b' cap' k1 k2 => ?_, fun m C k1 k2 => ?_, fun m m' C C' b' c c' k1 k2 k3 k4 => ?_⟩
  · rw [lk_cons] at k1
    split at k1
    · rename_i e; subst e
      obtain rfl := Option.some.inj k1
      rw [h2] at k2
      simp only [Option.some.injEq, Prod.mk.injEq] at k2
      obtain ⟨rfl, rfl⟩ := k2
      exact ⟨hb, g2, by rw [heq b g1.lt]; exact g3⟩
    · rename_i e
      obtain ⟨q1, q2, q3⟩ := hs.blk m C b' cap' k1 k2
      have hbb : b' ≠ b := fun e' => by subst e'; exact e (hs.inj n m B C b' cap cap' h1 k1 h2 k2)
      exact ⟨q1.keep hle (hx.block b' q1.lt hbb), q2, by rw [heq b' q1.lt]; exact q3⟩
  · rw [lk_cons] at k1
    split at k1
    · rename_i e; subst e; rw [h2] at k2; cases k2
    · exact hs.vir m C k1 k2
  · have hk : ∀ m C, lk ((n, { B with rows := rows }) :: A.blks) m = some C → ∃ C0, lk A.blks m = some C0 := fun m C h => by
      rw [lk_cons] at h
      split at h
      · rename_i e; subst e; exact ⟨B, h1⟩
      · exact ⟨C, h⟩
    obtain ⟨C0, e0⟩ := hk m C k1
    obtain ⟨C1, e1⟩ := hk m' C' k2
    exact hs.inj m m' C0 C1 b' c c' e0 e1 k3 k4
end
section
variable {P : Program} {G : Ghost} {ops : Array Oper} {rest : List Oper} {Q : St → Prop} {n0 : Nat} {env : List (Nat × (Prop × AV))} {bl : List (Nat × Blk)} {p : Prop} {dst : Option Nat} {ty : TypeId} {pos : String} {after : Array Edge} {gd : Option (Nat × Bool)}
end
end Lf
end
section
set_option linter.unusedVariables false
set_option linter.unusedSimpArgs false
set_option linter.unusedSectionVars false
namespace Lf
open Go Go.RowKit
def slcV (b c : Nat) : Nat → Value := fun len => .slice (some ⟨b, 0, none⟩) len c
section
variable {P : Program} {G : Ghost} {A B : St} {Φ : Frz} {β : Own} {a : Act} {w w' : World}
theorem W.fin {c : Code} {Q : Exit → St → Prop} (h : W P G c (fun e A => ∃ B, Le A B ∧ Q e B) A) : W P G c Q A := fun Φ β a w hs =>
  wp_mono (h Φ β a w hs) fun e a' w' ⟨A', Φ', β', ⟨B, hl, q⟩, s, l⟩ => by
    obtain ⟨Φ1, β1, l1, s1⟩ := hl G Φ' β' a' w' s
    exact ⟨B, Φ1, β1, q, s1, Frz.le_trans l l1⟩
/-- the place of an own slice -/
theorem Sat.place {t n : Nat} {C : Blk} (hs : Sat G Φ β A a w) (ht : lk A.env t = some (True, .slc n)) (hl : lk A.blks n = some C) :
    (∃ b c, Sat G Φ β (A.set t True (.pin n b c (slcV b c))) a w) ∨ (C.rows = [] ∧ Sat G Φ β (A.set t True (.pv (.one .slnil))) a w) := by
  obtain ⟨C', h1, h2, h3⟩ := (hs.env t True _ ht).1 trivial
  rw [hl] at h1
  obtain rfl := Option.some.inj h1
  have mk : ∀ v, AVRel Φ β A.blks (a.tmps.getD t undef) v → Sat G Φ β (A.set t True v) a w := fun v hv => by
    refine ⟨hs.kept, hs.fits, hs.old, hs.siz, hs.dfr, fun s q v' h => ?_, hs.blk, hs.vir, hs.inj⟩
    simp only [St.set] at h
    rw [lk_cons] at h
    split at h
    · rename_i e; subst e
      simp only [Option.some.injEq, Prod.mk.injEq] at h
      obtain ⟨rfl, rfl⟩ := h
      exact ⟨fun _ => hv, fun hq => (hq trivial).elim⟩
    · exact hs.env s q v' h
  rcases h3 with ⟨h3, h4⟩ | ⟨b, c, h3, h4⟩
  · exact .inr ⟨hs.vir n C hl h3, mk _ (by rw [h4]; exact Rel.slnil)⟩
  · exact .inl ⟨b, c, mk _ ⟨C, h3, hl, h2, h4⟩⟩
theorem PureOp.conv {o : Oper} {p : Prop} {v v' : AV} (h : PureOp P G A o p v) (hc : ∀ Φ β a w, Sat G Φ β A a w → ∀ Φ' u, AVRel Φ' β A.blks u v → AVRel Φ' β A.blks u v') : PureOp P G A o p v' := fun Φ β a w hs hp =>
  Oper.wp_mono' (h Φ β a w hs hp) (fun a' w' ⟨u, Φ', h1, h2, h3⟩ => ⟨u, Φ', h1, hc Φ β a w hs Φ' u h2, h3⟩) (fun _ _ _ h => h)
theorem rel_sla {b len c : Nat} {v : Value} (h : Rel Φ v (.sla b len c)) : v = .slice (some ⟨b, 0, none⟩) len c := by cases h; rfl
/-- a block is kept, an own slice that lies in it stands still from here on, with all else -/
inductive CConv (b c : Nat) (rows : List (List Cell)) : Cell → Cell → Prop
  | refl (x : Cell) : CConv b c rows x x
  | sla : CConv b c rows (.sla b rows.length c) (.sl rows)
  | nil : CConv b c rows .slnil (.sl [])
def LConv (b c : Nat) (rows : List (List Cell)) : List Cell → List Cell → Prop
  | [], [] => True
  | x :: xs, y :: ys => CConv b c rows x y ∧ LConv b c rows xs ys
  | _, _ => False
theorem lconv_get {b c : Nat} {rows : List (List Cell)} : ∀ {xs ys : List Cell}, LConv b c rows xs ys → xs.length = ys.length ∧ ∀ (j : Nat) (y : Cell), ys[j]? = some y → ∃ x, xs[j]? = some x ∧ CConv b c rows x y
  | [], [], _ => ⟨rfl, fun j y h => by simp at h⟩
  | x :: xs, y :: ys, h => ⟨by simp [(lconv_get h.2).1], fun j z hz => by
      cases j with
      | zero => simp at hz; subst hz; exact ⟨x, rfl, h.1⟩
      | succ j => simpa using (lconv_get h.2).2 j z (by simpa using hz)⟩
theorem Le.freezeK {m t n b c : Nat} {B C : Blk} {row row' : List Cell} (hm : lk A.blks m = some B) (hB : B.rows = [row]) (hmo : B.ob = false) (ht : lk A.env t = some (True, .pin n b c (slcV b c))) (hn : lk A.blks n = some C) (hne : n ≠ m) (hr : LConv b c C.rows row row') :
    Le A { A with env := frzX m A.blks A.env, blks := [(m, { B with rows := [row'] })] } := fun G Φ β a w hs => by
  obtain ⟨C', p1, p2, p3, p4⟩ := (hs.env t True _ ht).1 trivial
  rw [hn] at p2
  obtain rfl := Option.some.inj p2
  obtain ⟨Φ', β', hle, hs', hβ, hΦ⟩ := freezeX_sat hm hs
  have hslc : AVRel Φ β A.blks (slcV b c C.rows.length) (.slc n) := ⟨C, hn, p3, .inr ⟨b, c, p1, rfl⟩⟩
  have hfr : Rel Φ' (slcV b c C.rows.length) (.sl C.rows) := hΦ _ n C (.one (.sl C.rows)) hn hne hslc (by simp [toPV, hn])
  refine ⟨Φ', β', hle, hs'.kept, hs'.fits, hs'.old, hs'.siz, hs'.dfr, fun s q v h => ⟨fun hq => ?_, (hs'.env s q v h).2⟩, fun k D b' cap h1 h2 => ?_, fun k D h1 h2 => ?_, fun k k' D D' b' c1 c2 h1 h2 h3 h4 => ?_⟩
  · have h5 := (hs'.env s q v h).1 hq
    exact h5.turn (A := { A with blks := [(m, B)] }) (n := m) (B := B) (rows := [row']) (by show lk [(m, B)] m = _; rw [lk_cons, if_pos rfl]) hmo (by rw [hB]; rfl) |>.congr (fun k => by
      show lk ((m, { B with rows := [row'] }) :: [(m, B)]) k = lk [(m, { B with rows := [row'] })] k
      rw [lk_cons, lk_cons, lk_cons]; split <;> rfl)
  · rw [lk_cons] at h1
    split at h1
    · rename_i e; subst e
      obtain rfl := Option.some.inj h1
      obtain ⟨k1, k2, k3⟩ := hs'.blk m B b' cap (by show lk [(m, B)] m = _; rw [lk_cons, if_pos rfl]) h2
      obtain ⟨cur, g1, g2, g3, g4, g5, g6⟩ := k1.cells hmo
      obtain ⟨l1, l2⟩ := lconv_get hr
      refine ⟨.inl ⟨hmo, cur, g1, by rw [hB] at g2; exact g2, g3, g4, fun r hr' => ?_, fun i j r x hi hj => ?_⟩, k2, k3⟩
      · simp at hr'; subst hr'
        rw [← l1]; exact g5 row (by rw [hB]; simp)
      · have hi0 : i = 0 := by
          cases i with
          | zero => rfl
          | succ i => simp at hi
        subst hi0
        simp at hi; subst hi
        obtain ⟨y, q1, q2⟩ := l2 j x hj
        obtain ⟨v, q3, q4⟩ := g6 0 j row y (by rw [hB]; rfl) q1
        refine ⟨v, q3, ?_⟩
        cases q2 with
        | refl => exact q4
        | sla => rw [rel_sla q4]; exact hfr
        | nil => cases q4; exact .sl0
    · simp [lk] at h1
  · rw [lk_cons] at h1
    split at h1
    · rename_i e; subst e
      have := hs'.vir m B (by show lk [(m, B)] m = _; rw [lk_cons, if_pos rfl]) h2
      rw [hB] at this; cases this
    · simp [lk] at h1
  · rw [lk_cons] at h1 h2
    split at h1
    · rename_i e; split at h2
      · rename_i e'; rw [← e, ← e']
      · simp [lk] at h2
    · simp [lk] at h1
end
section
variable {P : Program} {G : Ghost} {ops : Array Oper} {rest : List Oper} {Q : St → Prop} {n0 : Nat} {env : List (Nat × (Prop × AV))} {bl : List (Nat × Blk)} {p : Prop} {dst : Option Nat} {ty : TypeId} {pos : String} {after : Array Edge} {gd : Option (Nat × Bool)}
theorem RG.place {t n : Nat} {C : Blk} (ht : lk env t = some (True, .slc n)) (hl : lk bl n = some C) (h1 : ∀ b c, RG P G ops rest Q (St.mk n0 ((t, (True, .pin n b c (slcV b c))) :: env) bl)) (h2 : C.rows = [] → RG P G ops rest Q (St.mk n0 ((t, (True, .pv (.one .slnil))) :: env) bl)) :
    RG P G ops rest Q (St.mk n0 env bl) := fun Φ β a w hs Q' hq => by
  rcases hs.place ht hl with ⟨b, c, hs'⟩ | ⟨h, hs'⟩
  · exact h1 b c Φ β a w hs' Q' hq
  · exact h2 h Φ β a w hs' Q' hq
/-- the second part was not reckoned -/
theorem Q_andF {c x : Operand} {b : Bool} (hc : Ev (St.mk n0 env bl) p c (.pv (.one (.bool b)))) (hb : b = false) :
    PureOp P G (St.mk n0 env bl) ⟨dst, .pick c x (.const (.bool false)), ty, pos, after, gd⟩ p (.pv (.one (.bool false))) := PureOp.val fun Φ β a w hs hp => by
  have h1 := AVRel.bool (hs.ev hc hp)
  subst hb
  exact ⟨.bool false, by simp [execOp, h1, asBool]; rfl, Rel.bool _⟩
variable {T : TT} (hT : TOK P T)
include hT
/-- an own slice out of an own struct -/
theorem Q_loadO {tt t n n2 i off b len c : Nat} {x : Operand} {ti : TI} {B C : Blk} {r : List Cell} {f : Nat → Value} (hpin : lk env tt = some (True, .pin n2 b c f)) (hf : f = slcV b c) (hC : lk bl n2 = some C) (hCo : C.ob = false) (ht : T t = some ti) (hb : ti.kind.isAgg = some false) (hx : Ev (St.mk n0 env bl) p x (.addr n i off))
    (hl : lk bl n = some B) (hr : B.rows[i]? = some r) (hc : r[off]? = some (.sla b len c)) (hlen : C.rows.length = len) : PureOp P G (St.mk n0 env bl) ⟨dst, .load t x, ty, pos, after, gd⟩ p (.slc n2) :=
  PureOp.conv (Q_load hT ht hb hx hl hr hc) fun Φ β a w hs Φ' u h => by
    obtain ⟨D, h1, h2, h3, _⟩ := (hs.env tt True _ hpin).1 trivial
    exact ⟨C, hC, hCo, .inr ⟨b, c, h1, by rw [hlen]; exact rel_sla h⟩⟩
/-- an own slice into an own struct -/
theorem S_storeO {t n n2 i off b c : Nat} {x : Operand} {ty' : Nat} {ti : TI} {B C : Blk} {r : List Cell} {f : Nat → Value} (hx : Ev (St.mk n0 env bl) True x (.addr n i off)) (hpin : lk env ty' = some (True, .pin n2 b c f)) (hf : f = slcV b c) (hC : lk bl n2 = some C) (ht : T t = some ti) (hz : ti.sz = 1)
    (hl : lk bl n = some B) (hr : B.rows[i]? = some r) (hfit : off + 1 ≤ r.length)
    (h : RG P G ops rest Q (St.mk n0 env ((n, { B with rows := B.rows.set i (splice r off [.sla b C.rows.length c]) }) :: bl))) : RG P G ops (⟨none, .store t x (.tmp ty'), ty, pos, after, none⟩ :: rest) Q (St.mk n0 env bl) :=
  RG.eff rfl (E_storeG hT (q := .one (.sla b C.rows.length c)) rfl rfl ht hx (fun Φ β a w hs => by
    obtain ⟨D, h1, h2, h3, h4⟩ := (hs.env ty' True _ hpin).1 trivial
    have h2' : lk bl n2 = some D := h2
    rw [hC] at h2'
    obtain rfl := Option.some.inj h2'
    show Rel Φ (a.tmps.getD ty' undef) _
    rw [h4, hf]
    exact Rel.sla b _ c) hl hr (by rw [hz]; rfl) (by rw [hz]; exact hfit)) h
omit hT in
/-- a slice of data, cut -/
theorem rel_cut {Φ : Frz} {v : Value} {rows : List (List Cell)} {sz lo hi : Nat} (h : Rel Φ v (.sl rows)) (hrows : ∀ r ∈ rows, r.length = sz) (h1 : lo ≤ hi) (h2 : hi ≤ rows.length) :
    ∃ a len cap, v = .slice a len cap ∧ len = rows.length ∧ len ≤ cap ∧ Rel Φ (.slice (if cap = lo then a else a.map (·.add (lo * sz))) (hi - lo) (cap - lo)) (.sl ((rows.drop lo).take (hi - lo))) := by
  cases h with
  | sl0 =>
    simp at h2
    refine ⟨none, 0, 0, rfl, rfl, Nat.le_refl _, ?_⟩
    have e1 : lo = 0 := by omega
    have e2 : hi = 0 := by omega
    subst e1; subst e2
    exact .sl0
  | slE a cap =>
    simp at h2
    refine ⟨some a, 0, cap, rfl, rfl, Nat.zero_le _, ?_⟩
    have e1 : lo = 0 := by omega
    have e2 : hi = 0 := by omega
    subst e1; subst e2
    simp only [List.drop_zero, Nat.sub_zero, List.take_zero]
    split
    · exact .slE a cap
    · exact .slE _ cap
  | sl b off len cap sz' _ f hlen hcap hsz hc hr =>
    refine ⟨some ⟨b, off, none⟩, len, cap, rfl, hlen.symm, hcap, ?_⟩
    by_cases e : lo = hi
    · subst e
      simp only [Nat.sub_self, List.take_zero]
      split
      · rename_i e2; exact .slE _ _
      · exact .slE _ _
    · have hne : cap ≠ lo := by rw [← hlen] at hcap; omega
      have hlt : hi - lo ≤ cap - lo := by rw [← hlen] at hcap; omega
      rw [if_neg hne]
      have hz : sz' = sz := by
        cases rows with
        | nil => simp at h2; omega
        | cons r rs => rw [← hsz r (by simp), hrows r (by simp)]
      subst hz
      have hget : ∀ (i : Nat) (r : List Cell), ((rows.drop lo).take (hi - lo))[i]? = some r → rows[lo + i]? = some r := fun i r h => by
        simp only [List.getElem?_take, List.getElem?_drop] at h
        split at h
        · exact h
        · cases h
      simp only [Option.map_some, Addr.add_lit]
      refine .sl b (off + lo * sz') (hi - lo) (cap - lo) sz' ((rows.drop lo).take (hi - lo)) (fun i j => f (lo + i) j) (by rw [List.length_take, List.length_drop]; omega) hlt (fun r hr' => hsz r (List.mem_of_mem_drop (List.mem_of_mem_take hr'))) (fun i j r c h3 h4 => ?_) (fun i j r c h3 h4 => ?_)
      · have := hc (lo + i) j r c (hget i r h3) h4
        have e : off + lo * sz' + (i * sz' + j) = off + ((lo + i) * sz' + j) := by rw [Nat.add_mul]; omega
        rw [e]; exact this
      · exact hr (lo + i) j r c (hget i r h3) h4
theorem Q_cut0 {t e : Nat} {x hi : Operand} {ti te : TI} {rows : List (List Cell)} {k : IntKind} {b : Int} (hx : Ev (St.mk n0 env bl) p x (.pv (.one (.sl rows)))) (hb : Ev (St.mk n0 env bl) p hi (.pv (.one (.int k b))))
    (ht : T t = some ti) (hk : ti.kind = .slice e) (he : T e = some te) (hrows : ∀ r ∈ rows, r.length = te.sz) (hr : p → 0 ≤ b ∧ b ≤ rows.length) : PureOp P G (St.mk n0 env bl) ⟨dst, .slice t x none (some hi) none, ty, pos, after, gd⟩ p (.pv (.one (.sl (rows.take b.toNat)))) := PureOp.val fun Φ β ac w hs hp => by
  have hu : P.underlying t = some (.slice e) := by have := (hT _ _ ht).kind; rw [hk] at this; exact this
  have h2 := AVRel.int (hs.ev hb hp)
  obtain ⟨r1, r2⟩ := hr hp
  obtain ⟨av, len, cap, h1, hlen, hcap, hrel⟩ := rel_cut (lo := 0) (hi := b.toNat) (show Rel Φ (ac.eval x) _ from hs.ev hx hp) hrows (by omega) (by omega)
  simp only [List.drop_zero, Nat.sub_zero] at hrel
  refine ⟨_, exec_val (m := Instr.sliceAt t (ac.eval x) none (some (ac.eval hi)) none) (by simp only [execOp]; rfl) ?_, hrel⟩
  rw [h1, h2]
  have e2 : (Instr.sliceBound (.int k b) cap .sliceAcap).run P w = .ok b.toNat w := run_bound ⟨r1, by omega⟩
  simp [Instr.sliceAt, run_underlying hu, Instr.slice, Instr.sliceBounds, e2, run_sizeOf hT he]
end
end Lf
end
section
set_option linter.unusedVariables false
set_option linter.unusedSimpArgs false
set_option linter.unusedSectionVars false
namespace Lf
open Go Go.RowKit
/-- a part of a block, as1 a slice -/
def subV (b sz off len c : Nat) : Nat → Value := fun _ => .slice (some ⟨b, off * sz, none⟩) len c
section
variable {P : Program} {G : Ghost} {A : St} {Φ : Frz} {β : Own} {a : Act} {w w' : World}
/-- THE CONTRACT OF A FUNCTION whose first parameter is a slice of its caller's own block: the block's rows before and behind the call. -/
structure SCalls (P : Program) (f : FuncId) (E sz : Nat) (rows : List (List Cell)) (off len : Nat) (args : List PV) (r : Nat → Nat → AV) (rows' : List (List Cell)) : Prop where
  fn : FnOK P f
  calls : ∀ (Φ : Frz) (w : World) (vs : Array Value) (b cap : Nat), Fits Φ w → vs[0]? = some (.slice (some ⟨b, off * sz, none⟩) len (cap - off)) → vs.size = args.length + 1 → (∀ (j : Nat) (p : PV), args[j]? = some p → ∃ v, vs[j + 1]? = some v ∧ PRel Φ v p) →
    Φ b = none → BlkRel Φ w b cap ⟨E, sz, rows⟩ →
    Calls P f vs w (fun e w' => ∃ v Φ', e = .returned v ∧ AVRel Φ' (fun _ => none) [] v (r b cap) ∧ Φ.le Φ' ∧ (∀ c, c < w.heap.size → Φ' c = Φ c) ∧ Fits Φ' w' ∧ BlkRel Φ' w' b cap ⟨E, sz, rows'⟩ ∧ BelowX b w.heap.size w w')
def St.initS (n b cap E sz : Nat) (rows : List (List Cell)) (off len : Nat) (args : List PV) : St := { n := n, env := (0, (True, .pin 0 b cap (subV b sz off len (cap - off)))) :: initEnv args 1, blks := [(0, ⟨E, sz, rows⟩)] }
/-- the end of such a function -/
def FinS (b cap E sz : Nat) (f : Nat → Value) (rows' : List (List Cell)) (ts : List Nat) (qs : List PV) (e : Exit) (A : St) : Prop :=
  (e = .normal ∨ e = .ret) ∧ ∃ m B, lk A.blks m = some B ∧ lk (frzX m A.blks A.env) 0 = some (True, .pin m b cap f) ∧ B = ⟨E, sz, rows'⟩ ∧ ResD { A with env := frzX m A.blks A.env, blks := [(m, B)] } ts qs
theorem FinS.ret {b cap E sz : Nat} {f : Nat → Value} {rows' : List (List Cell)} {ts : List Nat} {qs : List PV} (m : Nat) {B : Blk} (h1 : lk A.blks m = some B) (h2 : lk (frzX m A.blks A.env) 0 = some (True, .pin m b cap f)) (hB : B = ⟨E, sz, rows'⟩) (h : ResD { A with env := frzX m A.blks A.env, blks := [(m, B)] } ts qs) : FinS b cap E sz f rows' ts qs .ret A := ⟨.inr rfl, m, B, h1, h2, hB, h⟩
theorem SCalls.of_W {f : FuncId} {fn : Func} {c : Code} {E sz off len : Nat} {rows rows' : List (List Cell)} {args : List PV} {qs : Nat → Nat → List PV} (ts : List Nat) (n : Nat) (hf : P.funcs[f]? = some fn) (hn : (fn.name == "runtime.NumGoroutine") = false) (hb : fn.body = some c)
    (hr : fn.results = (ts.map ResultVar.tmp).toArray) (hnt : fn.ntmps = n) (hE : Nat.ble mapTag E = false) (h : ∀ G b cap, W P G c (FinS b cap E sz (subV b sz off len (cap - off)) rows' ts (qs b cap)) (St.initS n b cap E sz rows off len args)) : SCalls P f E sz rows off len args (fun b cap => ofRes (qs b cap)) rows' where
  fn := ⟨fn, hf, hn, by rw [hb]; rfl⟩
  calls := fun Φ w vs b cap hfit hv0 hsz harg hΦ hblk => by
    subst hnt
    have hlt := hblk.lt
    have hs0 : Sat { w0 := w, K := fun c => c < w.heap.size ∧ c ≠ b, F0 := Φ, lt := fun c h => h.1 } Φ (fun n => if n = 0 then some (b, cap) else none) (St.initS fn.ntmps b cap E sz rows off len args) { tmps := vs ++ Array.replicate (fn.ntmps - vs.size) undef, defers := [] } w := by
      have hget : ∀ (t : Nat) (v : Value), vs[t]? = some v → (vs ++ Array.replicate (fn.ntmps - vs.size) undef).getD t undef = v := fun t v h1 => by
        have hlt := (Array.getElem?_eq_some_iff.1 h1).1
        rw [Array.getD_eq_getD_getElem?, Array.getElem?_append_left (by simpa using hlt), h1]; rfl
      refine ⟨⟨rfl, rfl, rfl, Nat.le_refl _, fun b _ => rfl⟩, hfit, fun b _ => rfl, by simp [St.initS]; omega, rfl, fun t q v hl => ?_, fun n B b' cap' h1 h2 => ?_, fun n B h1 h2 => ?_, fun n n' B B' b' c1 c2 h1 h2 h3 h4 => ?_⟩
      · simp only [St.initS] at hl
        rw [lk_cons] at hl
        split at hl
        · rename_i e; subst e
          simp only [Option.some.injEq, Prod.mk.injEq] at hl
          obtain ⟨rfl, rfl⟩ := hl
          refine ⟨fun _ => ⟨⟨E, sz, rows⟩, by simp, rfl, ob_lt hE, ?_⟩, fun hq => (hq trivial).elim⟩
          rw [hget 0 _ hv0]; rfl
        · rename_i e
          obtain ⟨h1, rfl, p, hp, rfl⟩ := lk_init args 1 t q v hl
          refine ⟨fun _ => ?_, fun hq => (hq trivial).elim⟩
          obtain ⟨v, h2, h3⟩ := harg (t - 1) p hp
          rw [show t - 1 + 1 = t by omega] at h2
          show PRel Φ _ p
          rw [hget t v h2]; exact h3
      · simp only [St.initS] at h1
        rw [lk_cons] at h1
        split at h1
        · rename_i e; subst e
          obtain rfl := Option.some.inj h1
          simp at h2
          obtain ⟨rfl, rfl⟩ := h2
          exact ⟨hblk, fun h => h.2 rfl, hΦ⟩
        · simp [lk] at h1
      · simp only [St.initS] at h1
        rw [lk_cons] at h1
        split at h1
        · rename_i e; subst e; simp at h2
        · simp [lk] at h1
      · split at h3
        · rename_i e; split at h4
          · rename_i e'; rw [e, e']
          · cases h4
        · cases h3
    refine calls_of_wp hf hb (wp_mono (h _ b cap Φ _ _ w hs0) fun e a' w' ⟨A', Φ1, β1, ⟨he, m, B, hm1, hm2, hB, hres⟩, hs1, hle1⟩ => ?_)
    obtain ⟨Φ', β', hle2, hs⟩ := Le.freezeX hm1 _ Φ1 β1 a' w' hs1
    have hle := Frz.le_trans hle1 hle2
    obtain ⟨B0, k1, k2, k3, _⟩ := (hs.env 0 True _ hm2).1 trivial
    rw [lk_cons, if_pos rfl] at k2
    obtain rfl := Option.some.inj k2
    have hbl := hs.blk m B b cap (by rw [lk_cons, if_pos rfl]) k1
    subst hB
    have hv : a'.defers = [] ∧ ∃ v, (results fn a'.tmps).run P w' = .ok v w' ∧ (∃ v1 Φ'', Ending.returned v = .returned v1 ∧ AVRel Φ'' (fun _ => none) [] v1 (ofRes (qs b cap)) ∧ Φ.le Φ'' ∧ (∀ c, c < w.heap.size → Φ'' c = Φ c) ∧ Fits Φ'' w' ∧ BlkRel Φ'' w' b cap ⟨E, sz, rows'⟩ ∧ BelowX b w.heap.size w w') := by
      refine ⟨hs.dfr, _, run_results hr _ _, _, Φ', rfl, ?_, hle, fun c hc => ?_, hs.fits, hbl.1, ⟨hs.kept.os, hs.kept.tape, hs.kept.output, hs.kept.size, fun c h1 h2 => hs.kept.block c ⟨h1, h2⟩⟩⟩
      · have hl := resd_len hres
        generalize qs b cap = qs at hres hl ⊢
        match ts, qs, hres, hl with
        | [], [], _, _ => exact ⟨#[], rfl, rfl, fun j p h => by simp at h⟩
        | [t], [q], hres, _ =>
          obtain ⟨t', h1, h2⟩ := resd_get hs hres 0 q rfl
          simp at h1; subst h1
          exact h2
        | t :: t2 :: ts, q :: q2 :: qs, hres, hl =>
          refine ⟨_, rfl, by simpa using hl, fun j p hp => ?_⟩
          obtain ⟨t', h1, h2⟩ := resd_get hs hres j p hp
          exact ⟨_, by simp only [List.getElem?_toArray, List.getElem?_map, h1]; rfl, h2⟩
      · by_cases e : c = b
        · subst e; rw [hΦ]; exact hbl.2.2
        · exact hs.old c ⟨hc, e⟩
    rcases he with rfl | rfl
    · exact hv
    · exact hv
/-- an own block, cut at its end -/
theorem AVRel.other {m : Nat} {bl bl' : List (Nat × Blk)} {v : Value} {x : AV} (h : AVRel Φ β bl v x) (hm : x.ment m = false) (hl : ∀ k, k ≠ m → lk bl' k = lk bl k) : AVRel Φ β bl' v x := by
  cases x with
  | pv p => exact h
  | tup l => exact h
  | top => trivial
  | addr n i off =>
    have e : n ≠ m := fun e => by subst e; simp [AV.ment] at hm
    obtain ⟨b', cap', B', g1, g2, g3⟩ := h
    exact ⟨b', cap', B', g1, by rw [hl n e]; exact g2, g3⟩
  | slc n =>
    have e : n ≠ m := fun e => by subst e; simp [AV.ment] at hm
    obtain ⟨B', g2, g3⟩ := h
    exact ⟨B', by rw [hl n e]; exact g2, g3⟩
  | pin n b c f =>
    have e : n ≠ m := fun e => by subst e; simp [AV.ment] at hm
    obtain ⟨B', g1, g2, g3⟩ := h
    exact ⟨B', g1, by rw [hl n e]; exact g2, g3⟩
  | mp n =>
    have e : n ≠ m := fun e => by subst e; simp [AV.ment] at hm
    obtain ⟨b', cap', B', g1, g2, g3⟩ := h
    exact ⟨b', cap', B', g1, by rw [hl n e]; exact g2, g3⟩
  | mpn n bb =>
    have e : n ≠ m := fun e => by subst e; simp [AV.ment] at hm
    obtain ⟨b', cap', B', g1, g2, g3⟩ := h
    exact ⟨b', cap', B', g1, by rw [hl n e]; exact g2, g3⟩
  | itr d n =>
    have e : n ≠ m := fun e => by subst e; simp [AV.ment] at hm
    have e' : d ≠ m := fun e => by subst e; simp [AV.ment] at hm
    obtain ⟨b', cap', B', M, c, g1, g2, g3, g4, g5, g6⟩ := h
    exact ⟨b', cap', B', M, c, g1, by rw [hl d e']; exact g2, g3, g4, by rw [hl n e]; exact g5, g6⟩
theorem Sat.cutB (hs : Sat G Φ β A a w) {m : Nat} {B : Blk} (h1 : lk A.blks m = some B) (hob : B.ob = false) (n : Nat) : Sat G Φ β { A with env := fgt m A.env, blks := (m, { B with rows := B.rows.take n }) :: A.blks } a w := by
  have hl : ∀ k, k ≠ m → lk ((m, { B with rows := B.rows.take n }) :: A.blks) k = lk A.blks k := fun k hk => by rw [lk_cons, if_neg (Ne.symm hk)]
  refine ⟨hs.kept, hs.fits, hs.old, hs.siz, hs.dfr, fun t q v h => ?_, fun k C b cap k1 k2 => ?_, fun k C k1 k2 => ?_, fun k k' C C' b c c' k1 k2 k3 k4 => ?_⟩
  · obtain ⟨v', g1, rfl⟩ := lk_fgt _ _ _ _ _ h
    refine ⟨fun hq => ?_, (hs.env t q v' g1).2⟩
    cases hm : v'.ment m with
    | true => trivial
    | false => exact ((hs.env t q v' g1).1 hq).other hm hl
  · rw [lk_cons] at k1
    split at k1
    · rename_i e; subst e
      obtain rfl := Option.some.inj k1
      obtain ⟨q1, q2, q3⟩ := hs.blk m B b cap h1 k2
      obtain ⟨cur, g1, g2, g3, g4, g5, g6⟩ := q1.cells hob
      refine ⟨.inl ⟨hob, cur, g1, by simp only [List.length_take]; omega, g3, g4, fun r hr => g5 r (List.mem_of_mem_take hr), fun i j r x hi hj => g6 i j r x ?_ hj⟩, q2, q3⟩
      simp only [List.getElem?_take] at hi
      split at hi
      · exact hi
      · cases hi
    · exact hs.blk k C b cap k1 k2
  · rw [lk_cons] at k1
    split at k1
    · rename_i e; subst e
      obtain rfl := Option.some.inj k1
      simp [hs.vir m B h1 k2]
    · exact hs.vir k C k1 k2
  · have hk : ∀ k C, lk ((m, { B with rows := B.rows.take n }) :: A.blks) k = some C → ∃ C0, lk A.blks k = some C0 := fun k C h => by
      rw [lk_cons] at h
      split at h
      · rename_i e; subst e; exact ⟨B, h1⟩
      · exact ⟨C, h⟩
    obtain ⟨C0, e0⟩ := hk k C k1
    obtain ⟨C1, e1⟩ := hk k' C' k2
    exact hs.inj k k' C0 C1 b c c' e0 e1 k3 k4
/-- a call that hands the whole slice on, and has it back, cut -/
theorem E_callcut {o : Oper} {f : FuncId} {x : Operand} {ats : Array TypeId} {E sz d m n : Nat} {rows : List (List Cell)} (ho : o.op = .call { callee := .value (.func f), args := #[x], argTypes := ats }) (hd : o.dst = some d) (hn : d < A.n)
    (hx0 : Ev A True x (.slc m)) (hl : lk A.blks m = some ⟨E, sz, rows⟩) (hne : rows ≠ []) (hle : n ≤ rows.length) (hc : SCalls P f E sz rows 0 rows.length [] (fun b cap => .pv (.one (.sla b n cap))) rows) :
    EffOp P G A o ({ A with env := fgt m A.env, blks := (m, ⟨E, sz, rows.take n⟩) :: A.blks }.set d True (.slc m)) := fun Φ β a w hs => by
  have ho' : o.op = .call { callee := .value (.func f), args := [x].toArray, argTypes := ats } := ho
  unfold Oper.wp
  rw [call_run ho' hc.fn]
  obtain ⟨B, h2, hob, h3⟩ := hs.ev hx0 trivial
  rw [hl] at h2
  obtain rfl := Option.some.inj h2
  rcases h3 with ⟨h3, h4⟩ | ⟨b, cap, h3, h4⟩
  · exact absurd (hs.vir m _ hl h3) hne
  obtain ⟨g1, g2, g3⟩ := hs.blk m _ b cap hl h3
  refine Calls.mono (hc.calls Φ w _ b cap hs.fits (by simp [h4]) (by simp) (fun j q hq => by simp at hq) g3 g1) ?_
  rintro e w' ⟨v, Φ', rfl, hv, hle', heq, hfit, hbl, hb⟩
  have hs1 := hs.lend (rows := rows) hl h3 hob rfl hle' heq hfit hbl hb
  have hl1 : lk ((m, (⟨E, sz, rows⟩ : Blk)) :: A.blks) m = some ⟨E, sz, rows⟩ := by rw [lk_cons, if_pos rfl]
  have hs2 := hs1.cutB (m := m) hl1 hob n
  show ∃ Φ'' β', Sat G Φ'' β' _ (a.put o.dst v) w' ∧ Φ.le Φ''
  rw [hd]
  refine ⟨Φ', β, ?_, hle'⟩
  have hs3 : Sat G Φ' β { A with env := fgt m A.env, blks := (m, ⟨E, sz, rows.take n⟩) :: A.blks } a w' := by
    refine ⟨hs2.kept, hs2.fits, hs2.old, hs2.siz, hs2.dfr, fun t q v h => ?_, fun k C b' c' k1 k2 => hs2.blk k C b' c' ?_ k2, fun k C k1 k2 => hs2.vir k C ?_ k2, fun k k' C C' b' c c' k1 k2 k3 k4 => hs2.inj k k' C C' b' c c' ?_ ?_ k3 k4⟩
    · have h5 := hs2.env t q v h
      exact ⟨fun hq => (h5.1 hq).congr fun k => by simp only [lk_cons]; split <;> rfl, h5.2⟩
    all_goals (simp only [lk_cons] at *; split <;> simp_all)
  refine hs3.put (v := .slc m) hn ?_
  refine ⟨⟨E, sz, rows.take n⟩, by rw [lk_cons, if_pos rfl], hob, .inr ⟨b, cap, h3, ?_⟩⟩
  have : Rel Φ' v (.sla b n cap) := hv
  rw [rel_sla this]
  simp [List.length_take, Nat.min_eq_left hle]
/-- a call that lends a part of an own block -/
theorem E_callsub {o : Oper} {f : FuncId} {x : Operand} {xs : List Operand} {ats : Array TypeId} {ps : List PV} {E sz off len d m b c : Nat} {g : Nat → Value} {rows rows' : List (List Cell)} {r : AV} (ho : o.op = .call { callee := .value (.func f), args := (x :: xs).toArray, argTypes := ats }) (hd : o.dst = some d) (hn : d < A.n)
    (hx0 : Ev A True x (.pin m b c g)) (hg : g = subV b sz off len (c - off)) (hl : lk A.blks m = some ⟨E, sz, rows⟩) (hx : EvD A True xs ps) (hlen : rows'.length = rows.length) (hc : SCalls P f E sz rows off len ps (fun _ _ => r) rows') : EffOp P G A o ({ A with blks := (m, ⟨E, sz, rows'⟩) :: A.blks }.set d True r) := fun Φ β a w hs => by
  unfold Oper.wp
  rw [call_run ho hc.fn]
  obtain ⟨B, h1, h2, hob, h3⟩ := hs.ev hx0 trivial
  rw [hl] at h2
  obtain rfl := Option.some.inj h2
  obtain ⟨g1, g2, g3⟩ := hs.blk m _ b c hl h1
  rw [hg] at h3
  refine Calls.mono (hc.calls Φ w _ b c hs.fits (by simp [h3, subV]) (by simp [evd_len hx]) (fun j q hq => ?_) g3 g1) ?_
  · obtain ⟨y, k1, k2⟩ := evd_args hs trivial hx j q hq
    exact ⟨a.eval y, by simp [k1], k2⟩
  · rintro e w' ⟨v, Φ', rfl, hv, hle, heq, hfit, hbl, hb⟩
    have hs' := hs.lend (rows := rows') hl h1 hob hlen hle heq hfit hbl hb
    show ∃ Φ'' β', Sat G Φ'' β' _ (a.put o.dst v) w' ∧ Φ.le Φ''
    rw [hd]
    exact ⟨Φ', β, hs'.put hn hv.ret, hle⟩
theorem Le.unplace {t n b c : Nat} (ht : lk A.env t = some (True, .pin n b c (slcV b c))) : Le A (A.set t True (.slc n)) := fun G Φ β a w hs => by
  refine ⟨Φ, β, Φ.le_refl, hs.kept, hs.fits, hs.old, hs.siz, hs.dfr, fun s q v' h => ?_, hs.blk, hs.vir, hs.inj⟩
  simp only [St.set] at h
  rw [lk_cons] at h
  split at h
  · rename_i e; subst e
    simp only [Option.some.injEq, Prod.mk.injEq] at h
    obtain ⟨rfl, rfl⟩ := h
    refine ⟨fun _ => ?_, fun hq => (hq trivial).elim⟩
    obtain ⟨B, h1, h2, h3, h4⟩ := (hs.env t True _ ht).1 trivial
    exact ⟨B, h2, h3, .inr ⟨b, c, h1, h4⟩⟩
  · exact hs.env s q v' h
/-- what a callee made, as1 data -/
theorem OCalls.data {f : FuncId} {args : List PV} {E sz : Nat} {rows : List (List Cell)} (h : OCalls P f args E sz rows) (hE : Nat.ble mapTag E = false) : ACalls P f args (.pv (.one (.sl rows))) where
  fn := h.fn
  calls := fun Φ w vs hfit harg => by
    refine Calls.mono (h.calls Φ w vs hfit harg) ?_
    rintro e w' ⟨v, Φ', rfl, hv, hle, heq, hf, hb⟩
    rcases hv with ⟨rfl, rfl⟩ | ⟨b, cap, rfl, hbs, hbl, hΦ⟩
    · exact ⟨_, Φ', rfl, Rel.sl0, hle, heq, hf, hb⟩
    · obtain ⟨cur, g1, g2, g3, g4, g5, g6⟩ := hbl.cells hE
      have hle2 : Φ'.le (fun c => if c = b then some cur else Φ' c) := fun c x hc => by
        by_cases e : c = b
        · subst e; rw [hΦ] at hc; cases hc
        · simp [e, hc]
      refine ⟨_, fun c => if c = b then some cur else Φ' c, rfl, ?_, Frz.le_trans hle hle2, fun c hc => ?_, fun c x hc => ?_, hb⟩
      · show Rel _ _ _
        refine .sl b 0 rows.length cap sz rows (fun i j => (cur[i * sz + j]?).getD undef) rfl g2 g5 (fun i j r c hi hj => ?_) (fun i j r c hi hj => ?_)
        · obtain ⟨v, q1, q2⟩ := g6 i j r c hi hj
          simp [q1]
        · obtain ⟨v, q1, q2⟩ := g6 i j r c hi hj
          rw [q1]; exact q2.mono hle2
      · show (if c = b then some cur else Φ' c) = Φ c
        rw [if_neg (by omega)]; exact heq c hc
      · simp only at hc
        split at hc
        · rename_i e; subst e; cases hc; exact ⟨_, _, g1⟩
        · exact hf c x hc
end
section
variable {P : Program} {G : Ghost} {ops : Array Oper} {rest : List Oper} {Q : St → Prop} {n0 : Nat} {env : List (Nat × (Prop × AV))} {bl : List (Nat × Blk)} {p : Prop} {dst : Option Nat} {ty : TypeId} {pos : String} {after : Array Edge} {gd : Option (Nat × Bool)}
theorem S_callcut {d m n E sz : Nat} {rows : List (List Cell)} {f : FuncId} {x : Operand} {ats : Array TypeId} (hc : SCalls P f E sz rows 0 rows.length [] (fun b cap => .pv (.one (.sla b n cap))) rows) (hx0 : Ev (St.mk n0 env bl) True x (.slc m)) (hl : lk bl m = some ⟨E, sz, rows⟩) (hne : rows ≠ []) (hle : n ≤ rows.length) (hn : Nat.blt d n0 = true)
    (h : RG P G ops rest Q (St.mk n0 ((d, (True, .slc m)) :: fgt m env) ((m, ⟨E, sz, rows.take n⟩) :: bl))) : RG P G ops (⟨some d, .call ⟨.value (.func f), #[x], ats⟩, ty, pos, after, none⟩ :: rest) Q (St.mk n0 env bl) :=
  RG.eff rfl (E_callcut rfl rfl (blt_lt hn) hx0 hl hne hle hc) h
theorem S_callsub {d m b c E sz off len : Nat} {g : Nat → Value} {rows rows' : List (List Cell)} {f : FuncId} {x : Operand} {xs : List Operand} {ats : Array TypeId} {ps : List PV} {r : AV} (hc : SCalls P f E sz rows off len ps (fun _ _ => r) rows') (hx0 : Ev (St.mk n0 env bl) True x (.pin m b c g)) (hg : g = subV b sz off len (c - off)) (hl : lk bl m = some ⟨E, sz, rows⟩) (hn : Nat.blt d n0 = true) (hx : EvD (St.mk n0 env bl) True xs ps) (hlen : rows'.length = rows.length)
    (h : RG P G ops rest Q (St.mk n0 ((d, (True, r)) :: env) ((m, ⟨E, sz, rows'⟩) :: bl))) : RG P G ops (⟨some d, .call ⟨.value (.func f), (x :: xs).toArray, ats⟩, ty, pos, after, none⟩ :: rest) Q (St.mk n0 env bl) :=
  RG.eff rfl (E_callsub rfl rfl (blt_lt hn) hx0 hg hl hx hlen hc) h
end
end Lf
end
section
set_option linter.unusedVariables false
set_option linter.unusedSimpArgs false
namespace Lf
open Go
variable {P : Program} {G : Ghost} {n0 : Nat} {env : List (Nat × (Prop × AV))} {bl : List (Nat × Blk)} {p : Prop} {dst : Option Nat} {ty : TypeId} {pos : String} {after : Array Edge} {gd : Option (Nat × Bool)}
theorem Q_nilCheckp {x : Operand} {cs : List Cell} (hx : Ev (St.mk n0 env bl) p x (.pv (.one (.ptr cs)))) : PureOp P G (St.mk n0 env bl) ⟨dst, .nilCheck x, ty, pos, after, gd⟩ p (.pv (.one (.ptr cs))) := PureOp.val fun Φ β a w hs hp => by
  have hr : Rel Φ (a.eval x) (.ptr cs) := hs.ev hx hp
  refine ⟨a.eval x, ?_, hr⟩
  generalize hv : a.eval x = v at hr
  cases hr with
  | ptr b off _ f h1 h2 => simp [execOp, hv]
theorem lsub_get : ∀ {xs ys : List Cell}, LSub xs ys → xs.length = ys.length ∧ ∀ (j : Nat) (y : Cell), ys[j]? = some y → ∃ x, xs[j]? = some x ∧ CSub x y
  | [], [], _ => ⟨rfl, fun j y h => by simp at h⟩
  | x :: xs, y :: ys, h => ⟨by simp [(lsub_get h.2).1], fun j z hz => by
      cases j with
      | zero => simp at hz; subst hz; exact ⟨x, rfl, h.1⟩
      | succ j => simpa using (lsub_get h.2).2 j z (by simpa using hz)⟩
def RowsSub (rows rows' : List (List Cell)) : Prop := rows.length = rows'.length ∧ ∀ (i : Nat) (r' : List Cell), rows'[i]? = some r' → ∃ r, rows[i]? = some r ∧ LSub r r'
/-- a block's rows, read more weakly (an empty slice instead of nil) -/
theorem Le.rowSub {A : St} {n E sz : Nat} {rows rows' : List (List Cell)} (h : lk A.blks n = some ⟨E, sz, rows⟩) (hE : Nat.ble mapTag E = false) (hr : RowsSub rows rows') : Le A { A with blks := (n, ⟨E, sz, rows'⟩) :: A.blks } := fun G Φ β a w hs => by
  have hob : (⟨E, sz, rows⟩ : Blk).ob = false := hE
  refine ⟨Φ, β, Φ.le_refl, hs.kept, hs.fits, hs.old, hs.siz, hs.dfr, fun s q v hv => ⟨fun hq => ?_, (hs.env s q v hv).2⟩, fun k D b cap h1 h2 => ?_, fun k D h1 h2 => ?_, fun k k' D D' b c1 c2 h1 h2 h3 h4 => ?_⟩
  · exact AVRel.turn (B := ⟨E, sz, rows⟩) h hob hr.1.symm ((hs.env s q v hv).1 hq)
  · simp only at h1
    rw [lk_cons] at h1
    split at h1
    · rename_i e; subst e
      obtain rfl := Option.some.inj h1
      obtain ⟨g1, g2, g3⟩ := hs.blk _ _ b cap h h2
      refine ⟨?_, g2, g3⟩
      obtain ⟨cur, c1, c2, c3, c4, c5, c6⟩ := g1.cells hob
      refine .inl ⟨hob, cur, c1, by simp only; rw [← hr.1]; exact c2, c3, c4, fun r hr' => ?_, fun i j r x hi hj => ?_⟩
      · obtain ⟨i, hi, e⟩ := List.getElem_of_mem hr'
        obtain ⟨r0, q1, q2⟩ := hr.2 i r (by rw [List.getElem?_eq_getElem hi, e])
        rw [← (lsub_get q2).1]; exact c5 r0 (List.mem_of_getElem? q1)
      · obtain ⟨r0, q1, q2⟩ := hr.2 i r hi
        obtain ⟨x0, q3, q4⟩ := (lsub_get q2).2 j x hj
        obtain ⟨v, q5, q6⟩ := c6 i j r0 x0 q1 q3
        exact ⟨v, q5, q6.sub q4⟩
    · exact hs.blk k D b cap h1 h2
  · simp only at h1
    rw [lk_cons] at h1
    split at h1
    · rename_i e; subst e
      obtain rfl := Option.some.inj h1
      have := hs.vir _ _ h h2
      simp only at this ⊢
      have hl := hr.1
      rw [this] at hl
      exact List.length_eq_zero_iff.1 hl.symm
    · exact hs.vir k D h1 h2
  · have key : ∀ k D, lk ((n, (⟨E, sz, rows'⟩ : Blk)) :: A.blks) k = some D → ∃ D', lk A.blks k = some D' := fun k D hk => by
      rw [lk_cons] at hk
      split at hk
      · rename_i e; subst e; exact ⟨_, h⟩
      · exact ⟨D, hk⟩
    obtain ⟨_, k1⟩ := key k D h1
    obtain ⟨_, k2⟩ := key k' D' h2
    exact hs.inj k k' _ _ b c1 c2 k1 k2 h3 h4
def frzV1 (n : Nat) (bl : List (Nat × Blk)) (v : AV) : AV := bif v.ment n then (match v with | .itr _ _ => .top | .mp _ => .top | .mpn _ _ => .top | v => frzV bl v) else v
def frz1 (n : Nat) (bl : List (Nat × Blk)) : List (Nat × (Prop × AV)) → List (Nat × (Prop × AV))
  | [] => []
  | (t, (q, v)) :: r => (t, (q, frzV1 n bl v)) :: frz1 n bl r
theorem lk_frz1 (n : Nat) (bl : List (Nat × Blk)) : ∀ (env : List (Nat × (Prop × AV))) (t : Nat) (q : Prop) (v : AV), lk (frz1 n bl env) t = some (q, v) → ∃ v', lk env t = some (q, v') ∧ v = frzV1 n bl v'
  | [], t, q, v, h => by simp [frz1, lk] at h
  | (s, (q0, v0)) :: r, t, q, v, h => by
    rw [frz1, lk_cons] at h
    rw [lk_cons]
    split at h
    · rename_i e
      simp only [Option.some.injEq, Prod.mk.injEq] at h
      rw [if_pos e]
      exact ⟨v0, by rw [h.1], h.2.symm⟩
    · rename_i e
      rw [if_neg e]
      exact lk_frz1 n bl r t q v h
theorem AVRel.drop1 {A : St} {Φ Φ' : Frz} {β : Own} {m : Nat} {v : Value} {x : AV} (h : AVRel Φ β A.blks v x) (hle : Φ.le Φ') (hm : x.ment m = false) : AVRel Φ' (fun k => if k = m then none else β k) (dropB m A.blks) v x := by
  have hl : ∀ k, k ≠ m → lk (dropB m A.blks) k = lk A.blks k := fun k hk => by rw [lk_dropB, if_neg hk]
  have hb : ∀ k, k ≠ m → (fun k => if k = m then none else β k) k = β k := fun k hk => by simp [hk]
  cases x with
  | pv p => exact PRel.mono hle h
  | tup l => exact AVRel.mono hle h
  | top => trivial
  | addr n i off =>
    have e : n ≠ m := fun e => by subst e; simp [AV.ment] at hm
    obtain ⟨b', cap', B', g1, g2, g3⟩ := h
    exact ⟨b', cap', B', by rw [hb n e]; exact g1, by rw [hl n e]; exact g2, g3⟩
  | slc n =>
    have e : n ≠ m := fun e => by subst e; simp [AV.ment] at hm
    obtain ⟨B', g2, g3⟩ := h
    exact ⟨B', by rw [hl n e]; exact g2, by rw [hb n e]; exact g3⟩
  | pin n b c f =>
    have e : n ≠ m := fun e => by subst e; simp [AV.ment] at hm
    obtain ⟨B', g1, g2, g3⟩ := h
    exact ⟨B', by rw [hb n e]; exact g1, by rw [hl n e]; exact g2, g3⟩
  | mp n =>
    have e : n ≠ m := fun e => by subst e; simp [AV.ment] at hm
    obtain ⟨b', cap', B', g1, g2, g3⟩ := h
    exact ⟨b', cap', B', by rw [hb n e]; exact g1, by rw [hl n e]; exact g2, g3⟩
  | mpn n bb =>
    have e : n ≠ m := fun e => by subst e; simp [AV.ment] at hm
    obtain ⟨b', cap', B', g1, g2, g3⟩ := h
    exact ⟨b', cap', B', by rw [hb n e]; exact g1, by rw [hl n e]; exact g2, g3⟩
  | itr d n =>
    have e : n ≠ m := fun e => by subst e; simp [AV.ment] at hm
    have e' : d ≠ m := fun e => by subst e; simp [AV.ment] at hm
    obtain ⟨b', cap', B', M, c, g1, g2, g3, g4, g5, g6⟩ := h
    exact ⟨b', cap', B', M, c, by rw [hb d e']; exact g1, by rw [hl d e']; exact g2, g3, by rw [hb n e]; exact g4, by rw [hl n e]; exact g5, g6⟩
theorem Le.freeze1 {A : St} {m : Nat} {B : Blk} (hm : lk A.blks m = some B) : Le A { A with env := frz1 m A.blks A.env, blks := dropB m A.blks } := fun G Φ β a w hs => by
  have hs1 : Sat G Φ β ⟨A.n, [], [(m, B)]⟩ a w := by
    have key : ∀ {k C}, lk [(m, B)] k = some C → k = m ∧ C = B := fun {k C} h => by
      rw [lk_cons] at h
      split at h
      · rename_i e; exact ⟨e.symm, (Option.some.inj h).symm⟩
      · simp [lk] at h
    refine ⟨hs.kept, hs.fits, hs.old, hs.siz, hs.dfr, fun t q v h => by simp [lk] at h, fun n C b cap h1 h2 => ?_, fun n C h1 h2 => ?_, fun n n' C C' b c c' h1 h2 h3 h4 => ?_⟩
    · obtain ⟨rfl, rfl⟩ := key h1
      exact hs.blk _ _ b cap hm h2
    · obtain ⟨rfl, rfl⟩ := key h1
      exact hs.vir _ _ hm h2
    · rw [(key h1).1, (key h2).1]
  have hno : ∀ k C b cap, lk (dropB m A.blks) k = some C → β k = some (b, cap) → ¬ ownedBy β [(m, B)] b := fun k C b cap h1 h2 ⟨n, D, c', k1, k2⟩ => by
    rw [lk_dropB] at h1; split at h1
    · cases h1
    · rename_i e
      rw [lk_cons] at k1
      split at k1
      · rename_i e'; subst e'
        exact e (hs.inj k m C B b cap c' h1 hm h2 k2)
      · simp [lk] at k1
  refine ⟨frzAll Φ β [(m, B)] w, fun k => if k = m then none else β k, hs1.frz_le, hs.kept, hs1.frz_fits, fun b hk => ?_, hs.siz, hs.dfr, fun t q v h => ?_, fun n C b cap h1 h2 => ?_, fun n C h1 h2 => ?_, fun n n' C C' b c c' h1 h2 h3 h4 => ?_⟩
  · have hn : ¬ ownedBy β [(m, B)] b := fun ⟨n, C, cap, h1, h2⟩ => (hs1.blk n C b cap h1 h2).2.1 hk
    unfold frzAll
    rw [if_neg hn]
    exact hs.old b hk
  · obtain ⟨v', h1, rfl⟩ := lk_frz1 _ _ _ _ _ _ h
    refine ⟨fun hq => ?_, (hs.env t q v' h1).2⟩
    have h3 := (hs.env t q v' h1).1 hq
    unfold frzV1
    cases hmt : v'.ment m with
    | false => exact h3.drop1 hs1.frz_le hmt
    | true =>
      simp only [cond_true]
      cases v' with
      | mp n => trivial
      | mpn n bb => trivial
      | itr d n => trivial
      | tup l => simp [AV.ment] at hmt
      | pv p => simp [AV.ment] at hmt
      | top => trivial
      | pin n b c f => trivial
      | addr n i off =>
        have e : n = m := Nat.eq_of_beq_eq_true hmt
        subst e
        obtain ⟨b', cap', B', g1, g2, g3⟩ := h3
        rw [hm] at g2; obtain rfl := Option.some.inj g2
        have h5 : AVRel Φ β [(n, B)] (a.tmps.getD t undef) (.addr n i off) := ⟨b', cap', B, g1, by rw [lk_cons, if_pos rfl], g3⟩
        have e : toPV A.blks (.addr n i off) = toPV [(n, B)] (.addr n i off) := by simp only [toPV, hm, lk_cons, if_true]
        simp only [frzV, e]
        cases hq' : toPV [(n, B)] (.addr n i off) with
        | none => trivial
        | some p => exact hs1.toPV h5 hq'
      | slc n =>
        have e : n = m := Nat.eq_of_beq_eq_true hmt
        subst e
        obtain ⟨B', g2, g3⟩ := h3
        rw [hm] at g2; obtain rfl := Option.some.inj g2
        have h5 : AVRel Φ β [(n, B)] (a.tmps.getD t undef) (.slc n) := ⟨B, by rw [lk_cons, if_pos rfl], g3⟩
        have e : toPV A.blks (.slc n) = toPV [(n, B)] (.slc n) := by simp only [toPV, hm, lk_cons, if_true]
        simp only [frzV, e]
        cases hq' : toPV [(n, B)] (.slc n) with
        | none => trivial
        | some p => exact hs1.toPV h5 hq'
  · have h1' := h1
    simp only [lk_dropB] at h1
    split at h1
    · cases h1
    · rename_i e
      simp only [e, if_false] at h2
      obtain ⟨k1, k2, k3⟩ := hs.blk n C b cap h1 h2
      refine ⟨k1.keep hs1.frz_le rfl, k2, ?_⟩
      unfold frzAll
      rw [if_neg (hno n C b cap h1' h2)]
      exact k3
  · simp only [lk_dropB] at h1
    split at h1
    · cases h1
    · rename_i e
      simp only [e, if_false] at h2
      exact hs.vir n C h1 h2
  · simp only [lk_dropB] at h1 h2
    split at h1
    · cases h1
    · split at h2
      · cases h2
      · rename_i e e'
        simp only [e, if_false] at h3
        simp only [e', if_false] at h4
        exact hs.inj n n' C C' b c c' h1 h2 h3 h4
end Lf
end
section
set_option linter.unusedVariables false
set_option linter.unusedSimpArgs false
namespace Lf
open Go
def encI (n : Int) : List Cell := [.int .i64 n]
abbrev slI (l : List Int) : PV := .one (.sl (l.map encI))
def pw : Nat → Int
  | 0 => 1
  | n + 1 => 1048576 * pw n
def val : List Int → Int
  | [] => 0
  | d :: r => d + 1048576 * val r
def Dig (l : List Int) : Prop := ∀ d ∈ l, 0 ≤ d ∧ d < 1048576
theorem pw_pos : ∀ n, 0 < pw n
  | 0 => by decide
  | n + 1 => by have := pw_pos n; simp only [pw]; omega
theorem pw_add (m : Nat) : ∀ n, pw (n + m) = pw n * pw m
  | 0 => by simp [pw]
  | n + 1 => by rw [Nat.add_right_comm, pw, pw, pw_add m n]; grind
theorem pw_mono {m n : Nat} (h : m ≤ n) : pw m ≤ pw n := by
  obtain ⟨k, rfl⟩ := Nat.le.dest h
  rw [Nat.add_comm, pw_add]
  have h1 := pw_pos k
  have h2 := pw_pos m
  have : 1 * pw m ≤ pw k * pw m := Int.mul_le_mul_of_nonneg_right (by omega) (by omega)
  omega
theorem pw_lt {m n : Nat} (h : m < n) : pw m < pw n := by
  have h1 := pw_mono (show m + 1 ≤ n from h)
  have h2 := pw_pos m
  rw [pw] at h1; omega
theorem pw_inj {m n : Nat} (h : pw m < pw n) : m < n := by
  by_cases e : n ≤ m
  · have := pw_mono e; omega
  · omega
theorem Dig.nil : Dig [] := fun _ h => by cases h
theorem Dig.cons {d : Int} {r : List Int} (h : 0 ≤ d ∧ d < 1048576) (hr : Dig r) : Dig (d :: r) := fun x hx => by
  rcases List.mem_cons.1 hx with rfl | hx
  · exact h
  · exact hr x hx
theorem Dig.hd {d : Int} {r : List Int} (h : Dig (d :: r)) : 0 ≤ d ∧ d < 1048576 := h d (by simp)
theorem Dig.tl {d : Int} {r : List Int} (h : Dig (d :: r)) : Dig r := fun x hx => h x (by simp [hx])
theorem Dig.nth {l : List Int} (h : Dig l) {k : Nat} (hk : k < l.length) : 0 ≤ nth l k ∧ nth l k < 1048576 := by
  rw [nth_eq hk]; exact h _ (List.getElem_mem hk)
theorem Dig.take {l : List Int} (h : Dig l) (k : Nat) : Dig (l.take k) := fun x hx => h x (List.mem_of_mem_take hx)
theorem Dig.drop {l : List Int} (h : Dig l) (k : Nat) : Dig (l.drop k) := fun x hx => h x (List.mem_of_mem_drop hx)
theorem Dig.app {l m : List Int} (h : Dig l) (h' : Dig m) : Dig (l ++ m) := fun x hx => by
  rcases List.mem_append.1 hx with hx | hx
  · exact h x hx
  · exact h' x hx
theorem Dig.set {l : List Int} (h : Dig l) {k : Nat} {d : Int} (hd : 0 ≤ d ∧ d < 1048576) : Dig (l.set k d) := fun x hx => by
  rcases List.mem_or_eq_of_mem_set hx with hx | rfl
  · exact h x hx
  · exact hd
theorem Dig.rep (n : Nat) : Dig (List.replicate n 0) := fun x hx => by rw [(List.mem_replicate.1 hx).2]; decide
theorem val_app (m : List Int) : ∀ l : List Int, val (l ++ m) = val l + pw l.length * val m
  | [] => by simp [val, pw]
  | d :: r => by simp only [List.cons_append, val, val_app m r, List.length_cons, pw]; grind
theorem val_lo : ∀ {l : List Int}, Dig l → 0 ≤ val l
  | [], _ => by simp [val]
  | d :: r, h => by have h1 := val_lo h.tl; have h2 := h.hd; simp only [val]; omega
theorem val_hi : ∀ {l : List Int}, Dig l → val l < pw l.length
  | [], _ => by simp [val, pw]
  | d :: r, h => by have h1 := val_hi h.tl; have h2 := h.hd; simp only [val, List.length_cons, pw]; omega
theorem val_rep (n : Nat) : val (List.replicate n 0) = 0 := by
  induction n with
  | zero => rfl
  | succ n ih => rw [List.replicate_succ, val, ih]; rfl
theorem val_one (d : Int) : val [d] = d := by simp [val]
theorem val_split (l : List Int) {i : Nat} (h : i ≤ l.length) : val l = val (l.take i) + pw i * val (l.drop i) := by
  have := val_app (l.drop i) (l.take i)
  rw [List.take_append_drop] at this
  rw [this, List.length_take, Nat.min_eq_left h]
theorem val_take {l : List Int} {i : Nat} (h : i < l.length) : val (l.take (i + 1)) = val (l.take i) + pw i * nth l i := by
  rw [take_nth h, val_app, val_one, List.length_take, Nat.min_eq_left (by omega)]
theorem val_drop {l : List Int} {i : Nat} (h : i < l.length) : val (l.drop i) = nth l i + 1048576 * val (l.drop (i + 1)) := by
  rw [drop_nth h, val]
theorem nth_set_self {l : List Int} {i : Nat} {d : Int} (h : i < l.length) : nth (l.set i d) i = d := by simp [nth, List.getD, h]
theorem nth_set_ne {l : List Int} {i j : Nat} {d : Int} (h : i ≠ j) : nth (l.set i d) j = nth l j := by simp [nth, List.getD, h]
theorem val_set {l : List Int} {i : Nat} {d : Int} (h : i < l.length) : val (l.set i d) = val l + pw i * (d - nth l i) := by
  have e1 := val_split (l.set i d) (i := i) (by simp; omega)
  have e2 := val_split l (i := i) (by omega)
  rw [List.take_set_of_le (Nat.le_refl _), val_drop (by simpa using h), nth_set_self h, List.drop_set_of_lt (by omega)] at e1
  rw [val_drop h] at e2
  grind
/-- a list cut at its end -/
def trimL : List Int → List Int
  | [] => []
  | d :: r => match trimL r with
    | [] => if d = 0 then [] else [d]
    | x :: t => d :: x :: t
theorem trimL_zero : ∀ l : List Int, trimL (l ++ [0]) = trimL l
  | [] => rfl
  | d :: r => by simp only [List.cons_append, trimL, trimL_zero r]
theorem trimL_keep {d : Int} (hd : d ≠ 0) : ∀ l : List Int, trimL (l ++ [d]) = l ++ [d]
  | [] => by simp [trimL, hd]
  | x :: r => by
    simp only [List.cons_append, trimL, trimL_keep hd r]
    cases r <;> rfl
theorem trimL_len : ∀ l : List Int, (trimL l).length ≤ l.length
  | [] => by simp [trimL]
  | d :: r => by
    have := trimL_len r
    simp only [trimL]
    split
    · split <;> simp
    · rename_i x t h; rw [h] at this; simpa using this
theorem trimL_take : ∀ l : List Int, trimL l = l.take (trimL l).length
  | [] => rfl
  | d :: r => by
    have := trimL_take r
    simp only [trimL]
    split
    · rename_i h
      split <;> simp
    · rename_i x t h
      rw [h] at this
      rw [List.length_cons, List.take_succ_cons, ← this]
theorem val_trim : ∀ l : List Int, val (trimL l) = val l
  | [] => rfl
  | d :: r => by
    have := val_trim r
    simp only [trimL]
    split
    · rename_i h
      rw [h] at this
      simp only [val] at this ⊢
      split
      · rename_i e; rw [e, ← this]; simp [val]
      · rw [← this]; simp [val]
    · rename_i x t h
      rw [h] at this
      simp only [val] at this ⊢
      rw [this]
theorem Dig.trim {l : List Int} (h : Dig l) : Dig (trimL l) := by rw [trimL_take]; exact h.take _
/-- the last digit, or 1 -/
def topD : List Int → Int
  | [] => 1
  | [d] => d
  | _ :: d :: r => topD (d :: r)
structure Norm (l : List Int) : Prop where
  dig : Dig l
  top : topD l ≠ 0
theorem topD_nth : ∀ l : List Int, l ≠ [] → topD l = nth l (l.length - 1)
  | [], h => absurd rfl h
  | [d], _ => by simp [topD, nth]
  | x :: d :: r, _ => by
    rw [topD, topD_nth (d :: r) (by simp)]
    simp [nth]
theorem top_trim : ∀ l : List Int, topD (trimL l) ≠ 0
  | [] => by simp [trimL, topD]
  | d :: r => by
    have := top_trim r
    simp only [trimL]
    split
    · split
      · simp [topD]
      · simpa [topD]
    · rename_i x t h
      rw [h] at this
      simpa [topD] using this
theorem Dig.norm {l : List Int} (h : Dig l) : Norm (trimL l) := ⟨h.trim, top_trim l⟩
theorem Norm.nil : Norm [] := ⟨Dig.nil, by simp [topD]⟩
theorem Norm.tl {d : Int} {r : List Int} (h : Norm (d :: r)) : Norm r := ⟨h.dig.tl, by
  cases r with
  | nil => simp [topD]
  | cons x t => have := h.top; simpa [topD] using this⟩
theorem Norm.lo : ∀ {l : List Int}, Norm l → l ≠ [] → pw (l.length - 1) ≤ val l
  | [], _, h => absurd rfl h
  | [d], h, _ => by
    have h1 := h.top
    have h2 := h.dig.hd
    simp [topD] at h1
    simp [pw, val]; omega
  | x :: d :: r, h, _ => by
    have ih := Norm.lo h.tl (by simp)
    have h2 := h.dig.hd
    rw [val]
    simp only [List.length_cons, Nat.add_sub_cancel] at ih ⊢
    rw [pw]; omega
theorem Norm.pos {l : List Int} (h : Norm l) (hl : l ≠ []) : 0 < val l := by
  have := h.lo hl
  have := pw_pos (l.length - 1)
  omega
theorem Norm.zero {l : List Int} (h : Norm l) : val l = 0 ↔ l = [] := by
  constructor
  · intro e
    cases l with
    | nil => rfl
    | cons d r => have := h.pos (by simp); omega
  · rintro rfl; rfl
theorem Norm.len_le {l : List Int} (h : Norm l) {n : Nat} (hv : val l < pw n) : l.length ≤ n := by
  cases l with
  | nil => simp
  | cons d r =>
    have h1 := h.lo (by simp)
    have := pw_inj (show pw ((d :: r).length - 1) < pw n by omega)
    simp at this ⊢; omega
theorem dig_uniq : ∀ {a b : List Int}, Dig a → Dig b → a.length = b.length → val a = val b → a = b
  | [], [], _, _, _, _ => rfl
  | [], _ :: _, _, _, h, _ => by simp at h
  | _ :: _, [], _, _, h, _ => by simp at h
  | x :: a, y :: b, ha, hb, hl, hv => by
    have h1 := ha.hd
    have h2 := hb.hd
    simp only [val] at hv
    have e1 : x = y := by omega
    have e2 : val a = val b := by omega
    rw [e1, dig_uniq ha.tl hb.tl (by simpa using hl) e2]
theorem norm_uniq {a b : List Int} (ha : Norm a) (hb : Norm b) (hv : val a = val b) : a = b := by
  have h1 := ha.len_le (n := b.length) (by rw [hv]; exact val_hi hb.dig)
  have h2 := hb.len_le (n := a.length) (by rw [← hv]; exact val_hi ha.dig)
  exact dig_uniq ha.dig hb.dig (by omega) hv
/-- the digits of a number -/
def digsF : Nat → Nat → List Int
  | 0, _ => []
  | f + 1, n => if n = 0 then [] else ((n % 1048576 : Nat) : Int) :: digsF f (n / 1048576)
def digs (x : Int) : List Int := digsF x.toNat x.toNat
theorem digsF_ok : ∀ (f n : Nat), n ≤ f → Norm (digsF f n) ∧ val (digsF f n) = n
  | 0, n, h => by
    obtain rfl : n = 0 := by omega
    exact ⟨Norm.nil, rfl⟩
  | f + 1, n, h => by
    rw [digsF]
    by_cases hn : n = 0
    · subst hn; exact ⟨Norm.nil, rfl⟩
    · rw [if_neg hn]
      obtain ⟨h1, h2⟩ := digsF_ok f (n / 1048576) (by omega)
      refine ⟨⟨Dig.cons (by omega) h1.dig, ?_⟩, by rw [val, h2]; omega⟩
      cases hd : digsF f (n / 1048576) with
      | nil =>
        rw [hd] at h2
        simp only [val] at h2
        simp only [topD]
        omega
      | cons x t =>
        rw [hd] at h1
        simpa [topD] using h1.top
theorem digs_norm (x : Int) : Norm (digs x) := (digsF_ok _ _ (Nat.le_refl _)).1
theorem val_digs {x : Int} (h : 0 ≤ x) : val (digs x) = x := by rw [digs, (digsF_ok _ _ (Nat.le_refl _)).2]; omega
theorem Norm.digs {l : List Int} (h : Norm l) : l = digs (val l) := norm_uniq h (digs_norm _) (val_digs (val_lo h.dig)).symm
theorem trim_digs {l : List Int} (h : Dig l) : trimL l = digs (val l) := by rw [← val_trim l]; exact h.norm.digs
theorem trim_eq {l : List Int} {x : Int} (h : Dig l) (hv : val l = x) : trimL l = digs x := by rw [← hv]; exact trim_digs h
theorem digs_zero : digs 0 = [] := rfl
theorem digs_nil {x : Int} (h : 0 ≤ x) : digs x = [] ↔ x = 0 := by
  rw [← (digs_norm x).zero, val_digs h]
theorem digs_len {x : Int} (h : 0 ≤ x) {n : Nat} : (digs x).length ≤ n ↔ x < pw n := by
  constructor
  · intro hl
    have h1 := val_hi (digs_norm x).dig
    rw [val_digs h] at h1
    exact Int.lt_of_lt_of_le h1 (pw_mono hl)
  · intro hx
    exact (digs_norm x).len_le (by rw [val_digs h]; exact hx)
theorem digs_inj {x y : Int} (hx : 0 ≤ x) (hy : 0 ≤ y) (h : digs x = digs y) : x = y := by
  rw [← val_digs hx, h, val_digs hy]
/-- so many digits of a number -/
def digL : Nat → Int → List Int
  | 0, _ => []
  | n + 1, x => x % 1048576 :: digL n (x / 1048576)
theorem digL_ok : ∀ (n : Nat) (x : Int), 0 ≤ x ∧ x < pw n → Dig (digL n x) ∧ (digL n x).length = n ∧ val (digL n x) = x
  | 0, x, h => by
    simp only [pw] at h
    exact ⟨Dig.nil, rfl, by simp [digL, val]; omega⟩
  | n + 1, x, h => by
    simp only [pw] at h
    obtain ⟨h1, h2, h3⟩ := digL_ok n (x / 1048576) (by omega)
    exact ⟨Dig.cons (by omega) h1, by simp [digL, h2], by rw [digL, val, h3]; omega⟩
theorem val_ltL {a b : List Int} (ha : Dig a) (hb : Dig b) {i : Nat} (h1 : i < a.length) (h2 : i < b.length) (hd : a.drop (i + 1) = b.drop (i + 1)) (h : nth a i < nth b i) : val a < val b := by
  rw [val_split a (i := i) (by omega), val_split b (i := i) (by omega), val_drop h1, val_drop h2, hd]
  have e1 := val_hi (ha.take i)
  have e2 := val_lo (hb.take i)
  rw [List.length_take, Nat.min_eq_left (by omega)] at e1
  have e3 := pw_pos i
  have e4 : pw i * 1 ≤ pw i * (nth b i - nth a i) := Int.mul_le_mul_of_nonneg_left (by omega) (by omega)
  grind
theorem drop_step {a b : List Int} {i : Nat} (h1 : i < a.length) (h2 : i < b.length) (h : nth a i = nth b i) (hd : a.drop (i + 1) = b.drop (i + 1)) : a.drop i = b.drop i := by
  rw [drop_nth h1, drop_nth h2, h, hd]
theorem val_ltLen {a b : List Int} (ha : Dig a) (hb : Norm b) (h : a.length < b.length) : val a < val b := by
  have h1 := val_hi ha
  have h2 := hb.lo (by rintro rfl; simp at h)
  have h3 := pw_mono (show a.length ≤ b.length - 1 by omega)
  omega
end Lf
end
