/-
  The types of the seat, as the value-level logic takes them, each held against the program.
-/
import Derived.Test.YtionjeodcmnneaaRows
import Derived.Test.YtionjeodcmnneaaLfAny
import Derived.KernelRfl
set_option maxRecDepth 100000
set_option maxHeartbeats 4000000
namespace Go.Proofs.Ytionjeodcmnneaa
open Lf
def TYL : List (Nat × Lf.TI) := [
  (1, ⟨.func, 1, 8, .one (.nilf)⟩),
  (2, ⟨.int .i64, 1, 8, .one (.int .i64 0)⟩),
  (3, ⟨.int .i64, 1, 8, .one (.int .i64 0)⟩),
  (4, ⟨.bool, 1, 1, .one (.bool false)⟩),
  (5, ⟨.int .u8, 1, 1, .one (.int .u8 0)⟩),
  (6, ⟨.int .u8, 1, 1, .one (.int .u8 0)⟩),
  (7, ⟨.struct [(0, 2), (1, 3), (2, 4), (3, 6)], 4, 24, .agg [.int .i64 0, .int .i64 0, .bool false, .int .u8 0]⟩),
  (8, ⟨.struct [(0, 2), (1, 3), (2, 4), (3, 6)], 4, 24, .agg [.int .i64 0, .int .i64 0, .bool false, .int .u8 0]⟩),
  (9, ⟨.string, 1, 16, .one (.str [])⟩),
  (10, ⟨.string, 1, 16, .one (.str [])⟩),
  (11, ⟨.string, 1, 16, .one (.str [])⟩),
  (12, ⟨.int .u64, 1, 8, .one (.int .u64 0)⟩),
  (13, ⟨.struct [(0, 9), (1, 12)], 2, 24, .agg [.str [], .int .u64 0]⟩),
  (14, ⟨.struct [(0, 9), (1, 12)], 2, 24, .agg [.str [], .int .u64 0]⟩),
  (15, ⟨.ptr 108, 1, 8, .one (.nilp)⟩),
  (16, ⟨.ptr 111, 1, 8, .one (.nilp)⟩),
  (17, ⟨.ptr 121, 1, 8, .one (.nilp)⟩),
  (18, ⟨.struct [(0, 17)], 1, 8, .agg [.nilp]⟩),
  (19, ⟨.struct [(0, 17)], 1, 8, .agg [.nilp]⟩),
  (20, ⟨.iface, 1, 16, .one (.nili)⟩),
  (21, ⟨.int .i32, 1, 4, .one (.int .i32 0)⟩),
  (22, ⟨.slice 40, 1, 24, .one (.slnil)⟩),
  (23, ⟨.slice 3, 1, 24, .one (.slnil)⟩),
  (24, ⟨.func, 1, 8, .one (.nilf)⟩),
  (25, ⟨.func, 1, 8, .one (.nilf)⟩),
  (26, ⟨.slice 4, 1, 24, .one (.slnil)⟩),
  (27, ⟨.int .i64, 1, 8, .one (.int .i64 0)⟩),
  (29, ⟨.func, 1, 8, .one (.nilf)⟩),
  (30, ⟨.func, 1, 8, .one (.nilf)⟩),
  (31, ⟨.func, 1, 8, .one (.nilf)⟩),
  (32, ⟨.slice 61, 1, 24, .one (.slnil)⟩),
  (33, ⟨.slice 35, 1, 24, .one (.slnil)⟩),
  (34, ⟨.struct [(0, 3), (1, 3), (2, 3), (3, 9), (4, 33)], 5, 64, .agg [.int .i64 0, .int .i64 0, .int .i64 0, .str [], .slnil]⟩),
  (35, ⟨.struct [(0, 3), (1, 3), (2, 3), (3, 9), (4, 33)], 5, 64, .agg [.int .i64 0, .int .i64 0, .int .i64 0, .str [], .slnil]⟩),
  (36, ⟨.slice 72, 1, 24, .one (.slnil)⟩),
  (37, ⟨.slice 9, 1, 24, .one (.slnil)⟩),
  (38, ⟨.slice 69, 1, 24, .one (.slnil)⟩),
  (39, ⟨.struct [(0, 9), (1, 9), (2, 3), (3, 3), (4, 3), (5, 3), (6, 3), (7, 3), (8, 3), (9, 3), (10, 32), (11, 35), (16, 3), (17, 36), (18, 37), (19, 3), (20, 38), (21, 3), (22, 3), (23, 3), (24, 3)], 25, 304, .agg [.str [], .str [], .int .i64 0, .int .i64 0, .int .i64 0, .int .i64 0, .int .i64 0, .int .i64 0, .int .i64 0, .int .i64 0, .slnil, .int .i64 0, .int .i64 0, .int .i64 0, .str [], .slnil, .int .i64 0, .slnil, .slnil, .int .i64 0, .slnil, .int .i64 0, .int .i64 0, .int .i64 0, .int .i64 0]⟩),
  (40, ⟨.struct [(0, 9), (1, 9), (2, 3), (3, 3), (4, 3), (5, 3), (6, 3), (7, 3), (8, 3), (9, 3), (10, 32), (11, 35), (16, 3), (17, 36), (18, 37), (19, 3), (20, 38), (21, 3), (22, 3), (23, 3), (24, 3)], 25, 304, .agg [.str [], .str [], .int .i64 0, .int .i64 0, .int .i64 0, .int .i64 0, .int .i64 0, .int .i64 0, .int .i64 0, .int .i64 0, .slnil, .int .i64 0, .int .i64 0, .int .i64 0, .str [], .slnil, .int .i64 0, .slnil, .slnil, .int .i64 0, .slnil, .int .i64 0, .int .i64 0, .int .i64 0, .int .i64 0]⟩),
  (41, ⟨.func, 1, 8, .one (.nilf)⟩),
  (42, ⟨.func, 1, 8, .one (.nilf)⟩),
  (43, ⟨.func, 1, 8, .one (.nilf)⟩),
  (44, ⟨.func, 1, 8, .one (.nilf)⟩),
  (45, ⟨.func, 1, 8, .one (.nilf)⟩),
  (46, ⟨.int .u16, 1, 2, .one (.int .u16 0)⟩),
  (47, ⟨.func, 1, 8, .one (.nilf)⟩),
  (48, ⟨.slice 51, 1, 24, .one (.slnil)⟩),
  (49, ⟨.func, 1, 8, .one (.nilf)⟩),
  (50, ⟨.struct [(0, 3), (1, 3), (2, 4)], 3, 24, .agg [.int .i64 0, .int .i64 0, .bool false]⟩),
  (51, ⟨.struct [(0, 3), (1, 3), (2, 4)], 3, 24, .agg [.int .i64 0, .int .i64 0, .bool false]⟩),
  (53, ⟨.func, 1, 8, .one (.nilf)⟩),
  (54, ⟨.func, 1, 8, .one (.nilf)⟩),
  (55, ⟨.func, 1, 8, .one (.nilf)⟩),
  (56, ⟨.func, 1, 8, .one (.nilf)⟩),
  (57, ⟨.map 9 4, 1, 8, .one (.nilm)⟩),
  (58, ⟨.func, 1, 8, .one (.nilf)⟩),
  (59, ⟨.func, 1, 8, .one (.nilf)⟩),
  (60, ⟨.struct [(0, 9), (1, 35)], 6, 80, .agg [.str [], .int .i64 0, .int .i64 0, .int .i64 0, .str [], .slnil]⟩),
  (61, ⟨.struct [(0, 9), (1, 35)], 6, 80, .agg [.str [], .int .i64 0, .int .i64 0, .int .i64 0, .str [], .slnil]⟩),
  (62, ⟨.func, 1, 8, .one (.nilf)⟩),
  (63, ⟨.func, 1, 8, .one (.nilf)⟩),
  (64, ⟨.struct [(0, 9), (1, 4)], 2, 24, .agg [.str [], .bool false]⟩),
  (65, ⟨.slice 64, 1, 24, .one (.slnil)⟩),
  (66, ⟨.func, 1, 8, .one (.nilf)⟩),
  (67, ⟨.func, 1, 8, .one (.nilf)⟩),
  (68, ⟨.struct [(0, 3), (1, 3)], 2, 16, .agg [.int .i64 0, .int .i64 0]⟩),
  (69, ⟨.struct [(0, 3), (1, 3)], 2, 16, .agg [.int .i64 0, .int .i64 0]⟩),
  (70, ⟨.func, 1, 8, .one (.nilf)⟩),
  (71, ⟨.struct [(0, 9), (1, 35), (6, 3)], 7, 88, .agg [.str [], .int .i64 0, .int .i64 0, .int .i64 0, .str [], .slnil, .int .i64 0]⟩),
  (72, ⟨.struct [(0, 9), (1, 35), (6, 3)], 7, 88, .agg [.str [], .int .i64 0, .int .i64 0, .int .i64 0, .str [], .slnil, .int .i64 0]⟩),
  (73, ⟨.func, 1, 8, .one (.nilf)⟩),
  (74, ⟨.func, 1, 8, .one (.nilf)⟩),
  (75, ⟨.func, 1, 8, .one (.nilf)⟩),
  (76, ⟨.func, 1, 8, .one (.nilf)⟩),
  (77, ⟨.func, 1, 8, .one (.nilf)⟩),
  (78, ⟨.func, 1, 8, .one (.nilf)⟩),
  (79, ⟨.func, 1, 8, .one (.nilf)⟩),
  (80, ⟨.func, 1, 8, .one (.nilf)⟩),
  (81, ⟨.func, 1, 8, .one (.nilf)⟩),
  (82, ⟨.func, 1, 8, .one (.nilf)⟩),
  (83, ⟨.func, 1, 8, .one (.nilf)⟩),
  (84, ⟨.func, 1, 8, .one (.nilf)⟩),
  (85, ⟨.func, 1, 8, .one (.nilf)⟩),
  (86, ⟨.func, 1, 8, .one (.nilf)⟩),
  (87, ⟨.func, 1, 8, .one (.nilf)⟩),
  (88, ⟨.func, 1, 8, .one (.nilf)⟩),
  (89, ⟨.func, 1, 8, .one (.nilf)⟩),
  (90, ⟨.func, 1, 8, .one (.nilf)⟩),
  (91, ⟨.func, 1, 8, .one (.nilf)⟩),
  (92, ⟨.func, 1, 8, .one (.nilf)⟩),
  (93, ⟨.func, 1, 8, .one (.nilf)⟩),
  (94, ⟨.func, 1, 8, .one (.nilf)⟩),
  (95, ⟨.func, 1, 8, .one (.nilf)⟩),
  (96, ⟨.func, 1, 8, .one (.nilf)⟩),
  (97, ⟨.func, 1, 8, .one (.nilf)⟩),
  (98, ⟨.func, 1, 8, .one (.nilf)⟩),
  (99, ⟨.func, 1, 8, .one (.nilf)⟩),
  (100, ⟨.func, 1, 8, .one (.nilf)⟩),
  (101, ⟨.func, 1, 8, .one (.nilf)⟩),
  (102, ⟨.func, 1, 8, .one (.nilf)⟩),
  (103, ⟨.func, 1, 8, .one (.nilf)⟩),
  (104, ⟨.func, 1, 8, .one (.nilf)⟩),
  (105, ⟨.func, 1, 8, .one (.nilf)⟩),
  (106, ⟨.func, 1, 8, .one (.nilf)⟩),
  (107, ⟨.struct [(0, 17), (1, 17), (2, 17), (3, 9)], 4, 40, .agg [.nilp, .nilp, .nilp, .str []]⟩),
  (108, ⟨.struct [(0, 17), (1, 17), (2, 17), (3, 9)], 4, 40, .agg [.nilp, .nilp, .nilp, .str []]⟩),
  (112, ⟨.func, 1, 8, .one (.nilf)⟩),
  (113, ⟨.int .u32, 1, 4, .one (.int .u32 0)⟩),
  (114, ⟨.int .u8, 1, 1, .one (.int .u8 0)⟩),
  (115, ⟨.int .u8, 1, 1, .one (.int .u8 0)⟩),
  (116, ⟨.func, 1, 8, .one (.nilf)⟩),
  (117, ⟨.ptr 5, 1, 8, .one (.nilp)⟩),
  (118, ⟨.int .i32, 1, 4, .one (.int .i32 0)⟩),
  (119, ⟨.int .i32, 1, 4, .one (.int .i32 0)⟩),
  (120, ⟨.struct [(0, 12), (1, 12), (2, 113), (3, 114), (4, 5), (5, 5), (6, 115), (7, 116), (8, 117), (9, 118), (10, 119)], 11, 48, .agg [.int .u64 0, .int .u64 0, .int .u32 0, .int .u8 0, .int .u8 0, .int .u8 0, .int .u8 0, .nilf, .nilp, .int .i32 0, .int .i32 0]⟩),
  (121, ⟨.struct [(0, 12), (1, 12), (2, 113), (3, 114), (4, 5), (5, 5), (6, 115), (7, 116), (8, 117), (9, 118), (10, 119)], 11, 48, .agg [.int .u64 0, .int .u64 0, .int .u32 0, .int .u8 0, .int .u8 0, .int .u8 0, .int .u8 0, .nilf, .nilp, .int .i32 0, .int .i32 0]⟩)]
def TY : Lf.TT := Lf.lk TYL
theorem TYok : Lf.TOK Try.prog TY := Lf.TOK.of_list (
  Lf.AllOK.cons (Lf.TI.ok_mk (z := .nilFunc) (Lf.TK.ok_func (by kernel_rfl)) (by kernel_rfl) (fun _ => Lf.Rel.nilf)) (
  Lf.AllOK.cons (Lf.TI.ok_mk (z := .int .i64 0) ((by kernel_rfl : Try.prog.underlying 2 = _)) (by kernel_rfl) (fun _ => Lf.Rel.int _ _)) (
  Lf.AllOK.cons (Lf.TI.ok_mk (z := .int .i64 0) ((by kernel_rfl : Try.prog.underlying 3 = _)) (by kernel_rfl) (fun _ => Lf.Rel.int _ _)) (
  Lf.AllOK.cons (Lf.TI.ok_mk (z := .bool false) ((by kernel_rfl : Try.prog.underlying 4 = _)) (by kernel_rfl) (fun _ => Lf.Rel.bool _)) (
  Lf.AllOK.cons (Lf.TI.ok_mk (z := .int .u8 0) ((by kernel_rfl : Try.prog.underlying 5 = _)) (by kernel_rfl) (fun _ => Lf.Rel.int _ _)) (
  Lf.AllOK.cons (Lf.TI.ok_mk (z := .int .u8 0) ((by kernel_rfl : Try.prog.underlying 6 = _)) (by kernel_rfl) (fun _ => Lf.Rel.int _ _)) (
  Lf.AllOK.cons (Lf.TI.ok_mk (z := .agg #[.int .i64 0, .int .i64 0, .bool false, .int .u8 0]) (Lf.TK.ok_struct (by kernel_rfl)) (by kernel_rfl) (fun _ => ⟨_, rfl, ⟨.int _ _, .int _ _, .bool _, .int _ _, trivial⟩⟩)) (
  Lf.AllOK.cons (Lf.TI.ok_mk (z := .agg #[.int .i64 0, .int .i64 0, .bool false, .int .u8 0]) (Lf.TK.ok_struct (by kernel_rfl)) (by kernel_rfl) (fun _ => ⟨_, rfl, ⟨.int _ _, .int _ _, .bool _, .int _ _, trivial⟩⟩)) (
  Lf.AllOK.cons (Lf.TI.ok_mk (z := .string ⟨#[]⟩) ((by kernel_rfl : Try.prog.underlying 9 = _)) (by kernel_rfl) (fun _ => Lf.Rel.str ⟨#[]⟩)) (
  Lf.AllOK.cons (Lf.TI.ok_mk (z := .string ⟨#[]⟩) ((by kernel_rfl : Try.prog.underlying 10 = _)) (by kernel_rfl) (fun _ => Lf.Rel.str ⟨#[]⟩)) (
  Lf.AllOK.cons (Lf.TI.ok_mk (z := .string ⟨#[]⟩) ((by kernel_rfl : Try.prog.underlying 11 = _)) (by kernel_rfl) (fun _ => Lf.Rel.str ⟨#[]⟩)) (
  Lf.AllOK.cons (Lf.TI.ok_mk (z := .int .u64 0) ((by kernel_rfl : Try.prog.underlying 12 = _)) (by kernel_rfl) (fun _ => Lf.Rel.int _ _)) (
  Lf.AllOK.cons (Lf.TI.ok_mk (z := .agg #[.string ⟨#[]⟩, .int .u64 0]) (Lf.TK.ok_struct (by kernel_rfl)) (by kernel_rfl) (fun _ => ⟨_, rfl, ⟨.str ⟨#[]⟩, .int _ _, trivial⟩⟩)) (
  Lf.AllOK.cons (Lf.TI.ok_mk (z := .agg #[.string ⟨#[]⟩, .int .u64 0]) (Lf.TK.ok_struct (by kernel_rfl)) (by kernel_rfl) (fun _ => ⟨_, rfl, ⟨.str ⟨#[]⟩, .int _ _, trivial⟩⟩)) (
  Lf.AllOK.cons (Lf.TI.ok_mk (z := .pointer none) ((by kernel_rfl : Try.prog.underlying 15 = _)) (by kernel_rfl) (fun _ => Lf.Rel.nilp)) (
  Lf.AllOK.cons (Lf.TI.ok_mk (z := .pointer none) ((by kernel_rfl : Try.prog.underlying 16 = _)) (by kernel_rfl) (fun _ => Lf.Rel.nilp)) (
  Lf.AllOK.cons (Lf.TI.ok_mk (z := .pointer none) ((by kernel_rfl : Try.prog.underlying 17 = _)) (by kernel_rfl) (fun _ => Lf.Rel.nilp)) (
  Lf.AllOK.cons (Lf.TI.ok_mk (z := .agg #[.pointer none]) (Lf.TK.ok_struct (by kernel_rfl)) (by kernel_rfl) (fun _ => ⟨_, rfl, ⟨.nilp, trivial⟩⟩)) (
  Lf.AllOK.cons (Lf.TI.ok_mk (z := .agg #[.pointer none]) (Lf.TK.ok_struct (by kernel_rfl)) (by kernel_rfl) (fun _ => ⟨_, rfl, ⟨.nilp, trivial⟩⟩)) (
  Lf.AllOK.cons (Lf.TI.ok_mk (z := .nilIface) (Lf.TK.ok_iface (by kernel_rfl)) (by kernel_rfl) (fun _ => Lf.Rel.nili)) (
  Lf.AllOK.cons (Lf.TI.ok_mk (z := .int .i32 0) ((by kernel_rfl : Try.prog.underlying 21 = _)) (by kernel_rfl) (fun _ => Lf.Rel.int _ _)) (
  Lf.AllOK.cons (Lf.TI.ok_mk (z := .slice none 0 0) ((by kernel_rfl : Try.prog.underlying 22 = _)) (by kernel_rfl) (fun _ => Lf.Rel.slnil)) (
  Lf.AllOK.cons (Lf.TI.ok_mk (z := .slice none 0 0) ((by kernel_rfl : Try.prog.underlying 23 = _)) (by kernel_rfl) (fun _ => Lf.Rel.slnil)) (
  Lf.AllOK.cons (Lf.TI.ok_mk (z := .nilFunc) (Lf.TK.ok_func (by kernel_rfl)) (by kernel_rfl) (fun _ => Lf.Rel.nilf)) (
  Lf.AllOK.cons (Lf.TI.ok_mk (z := .nilFunc) (Lf.TK.ok_func (by kernel_rfl)) (by kernel_rfl) (fun _ => Lf.Rel.nilf)) (
  Lf.AllOK.cons (Lf.TI.ok_mk (z := .slice none 0 0) ((by kernel_rfl : Try.prog.underlying 26 = _)) (by kernel_rfl) (fun _ => Lf.Rel.slnil)) (
  Lf.AllOK.cons (Lf.TI.ok_mk (z := .int .i64 0) ((by kernel_rfl : Try.prog.underlying 27 = _)) (by kernel_rfl) (fun _ => Lf.Rel.int _ _)) (
  Lf.AllOK.cons (Lf.TI.ok_mk (z := .nilFunc) (Lf.TK.ok_func (by kernel_rfl)) (by kernel_rfl) (fun _ => Lf.Rel.nilf)) (
  Lf.AllOK.cons (Lf.TI.ok_mk (z := .nilFunc) (Lf.TK.ok_func (by kernel_rfl)) (by kernel_rfl) (fun _ => Lf.Rel.nilf)) (
  Lf.AllOK.cons (Lf.TI.ok_mk (z := .nilFunc) (Lf.TK.ok_func (by kernel_rfl)) (by kernel_rfl) (fun _ => Lf.Rel.nilf)) (
  Lf.AllOK.cons (Lf.TI.ok_mk (z := .slice none 0 0) ((by kernel_rfl : Try.prog.underlying 32 = _)) (by kernel_rfl) (fun _ => Lf.Rel.slnil)) (
  Lf.AllOK.cons (Lf.TI.ok_mk (z := .slice none 0 0) ((by kernel_rfl : Try.prog.underlying 33 = _)) (by kernel_rfl) (fun _ => Lf.Rel.slnil)) (
  Lf.AllOK.cons (Lf.TI.ok_mk (z := .agg #[.int .i64 0, .int .i64 0, .int .i64 0, .string ⟨#[]⟩, .slice none 0 0]) (Lf.TK.ok_struct (by kernel_rfl)) (by kernel_rfl) (fun _ => ⟨_, rfl, ⟨.int _ _, .int _ _, .int _ _, .str ⟨#[]⟩, .slnil, trivial⟩⟩)) (
  Lf.AllOK.cons (Lf.TI.ok_mk (z := .agg #[.int .i64 0, .int .i64 0, .int .i64 0, .string ⟨#[]⟩, .slice none 0 0]) (Lf.TK.ok_struct (by kernel_rfl)) (by kernel_rfl) (fun _ => ⟨_, rfl, ⟨.int _ _, .int _ _, .int _ _, .str ⟨#[]⟩, .slnil, trivial⟩⟩)) (
  Lf.AllOK.cons (Lf.TI.ok_mk (z := .slice none 0 0) ((by kernel_rfl : Try.prog.underlying 36 = _)) (by kernel_rfl) (fun _ => Lf.Rel.slnil)) (
  Lf.AllOK.cons (Lf.TI.ok_mk (z := .slice none 0 0) ((by kernel_rfl : Try.prog.underlying 37 = _)) (by kernel_rfl) (fun _ => Lf.Rel.slnil)) (
  Lf.AllOK.cons (Lf.TI.ok_mk (z := .slice none 0 0) ((by kernel_rfl : Try.prog.underlying 38 = _)) (by kernel_rfl) (fun _ => Lf.Rel.slnil)) (
  Lf.AllOK.cons (Lf.TI.ok_mk (z := .agg #[.string ⟨#[]⟩, .string ⟨#[]⟩, .int .i64 0, .int .i64 0, .int .i64 0, .int .i64 0, .int .i64 0, .int .i64 0, .int .i64 0, .int .i64 0, .slice none 0 0, .int .i64 0, .int .i64 0, .int .i64 0, .string ⟨#[]⟩, .slice none 0 0, .int .i64 0, .slice none 0 0, .slice none 0 0, .int .i64 0, .slice none 0 0, .int .i64 0, .int .i64 0, .int .i64 0, .int .i64 0]) (Lf.TK.ok_struct (by kernel_rfl)) (by kernel_rfl) (fun _ => ⟨_, rfl, ⟨.str ⟨#[]⟩, .str ⟨#[]⟩, .int _ _, .int _ _, .int _ _, .int _ _, .int _ _, .int _ _, .int _ _, .int _ _, .slnil, .int _ _, .int _ _, .int _ _, .str ⟨#[]⟩, .slnil, .int _ _, .slnil, .slnil, .int _ _, .slnil, .int _ _, .int _ _, .int _ _, .int _ _, trivial⟩⟩)) (
  Lf.AllOK.cons (Lf.TI.ok_mk (z := .agg #[.string ⟨#[]⟩, .string ⟨#[]⟩, .int .i64 0, .int .i64 0, .int .i64 0, .int .i64 0, .int .i64 0, .int .i64 0, .int .i64 0, .int .i64 0, .slice none 0 0, .int .i64 0, .int .i64 0, .int .i64 0, .string ⟨#[]⟩, .slice none 0 0, .int .i64 0, .slice none 0 0, .slice none 0 0, .int .i64 0, .slice none 0 0, .int .i64 0, .int .i64 0, .int .i64 0, .int .i64 0]) (Lf.TK.ok_struct (by kernel_rfl)) (by kernel_rfl) (fun _ => ⟨_, rfl, ⟨.str ⟨#[]⟩, .str ⟨#[]⟩, .int _ _, .int _ _, .int _ _, .int _ _, .int _ _, .int _ _, .int _ _, .int _ _, .slnil, .int _ _, .int _ _, .int _ _, .str ⟨#[]⟩, .slnil, .int _ _, .slnil, .slnil, .int _ _, .slnil, .int _ _, .int _ _, .int _ _, .int _ _, trivial⟩⟩)) (
  Lf.AllOK.cons (Lf.TI.ok_mk (z := .nilFunc) (Lf.TK.ok_func (by kernel_rfl)) (by kernel_rfl) (fun _ => Lf.Rel.nilf)) (
  Lf.AllOK.cons (Lf.TI.ok_mk (z := .nilFunc) (Lf.TK.ok_func (by kernel_rfl)) (by kernel_rfl) (fun _ => Lf.Rel.nilf)) (
  Lf.AllOK.cons (Lf.TI.ok_mk (z := .nilFunc) (Lf.TK.ok_func (by kernel_rfl)) (by kernel_rfl) (fun _ => Lf.Rel.nilf)) (
  Lf.AllOK.cons (Lf.TI.ok_mk (z := .nilFunc) (Lf.TK.ok_func (by kernel_rfl)) (by kernel_rfl) (fun _ => Lf.Rel.nilf)) (
  Lf.AllOK.cons (Lf.TI.ok_mk (z := .nilFunc) (Lf.TK.ok_func (by kernel_rfl)) (by kernel_rfl) (fun _ => Lf.Rel.nilf)) (
  Lf.AllOK.cons (Lf.TI.ok_mk (z := .int .u16 0) ((by kernel_rfl : Try.prog.underlying 46 = _)) (by kernel_rfl) (fun _ => Lf.Rel.int _ _)) (
  Lf.AllOK.cons (Lf.TI.ok_mk (z := .nilFunc) (Lf.TK.ok_func (by kernel_rfl)) (by kernel_rfl) (fun _ => Lf.Rel.nilf)) (
  Lf.AllOK.cons (Lf.TI.ok_mk (z := .slice none 0 0) ((by kernel_rfl : Try.prog.underlying 48 = _)) (by kernel_rfl) (fun _ => Lf.Rel.slnil)) (
  Lf.AllOK.cons (Lf.TI.ok_mk (z := .nilFunc) (Lf.TK.ok_func (by kernel_rfl)) (by kernel_rfl) (fun _ => Lf.Rel.nilf)) (
  Lf.AllOK.cons (Lf.TI.ok_mk (z := .agg #[.int .i64 0, .int .i64 0, .bool false]) (Lf.TK.ok_struct (by kernel_rfl)) (by kernel_rfl) (fun _ => ⟨_, rfl, ⟨.int _ _, .int _ _, .bool _, trivial⟩⟩)) (
  Lf.AllOK.cons (Lf.TI.ok_mk (z := .agg #[.int .i64 0, .int .i64 0, .bool false]) (Lf.TK.ok_struct (by kernel_rfl)) (by kernel_rfl) (fun _ => ⟨_, rfl, ⟨.int _ _, .int _ _, .bool _, trivial⟩⟩)) (
  Lf.AllOK.cons (Lf.TI.ok_mk (z := .nilFunc) (Lf.TK.ok_func (by kernel_rfl)) (by kernel_rfl) (fun _ => Lf.Rel.nilf)) (
  Lf.AllOK.cons (Lf.TI.ok_mk (z := .nilFunc) (Lf.TK.ok_func (by kernel_rfl)) (by kernel_rfl) (fun _ => Lf.Rel.nilf)) (
  Lf.AllOK.cons (Lf.TI.ok_mk (z := .nilFunc) (Lf.TK.ok_func (by kernel_rfl)) (by kernel_rfl) (fun _ => Lf.Rel.nilf)) (
  Lf.AllOK.cons (Lf.TI.ok_mk (z := .nilFunc) (Lf.TK.ok_func (by kernel_rfl)) (by kernel_rfl) (fun _ => Lf.Rel.nilf)) (
  Lf.AllOK.cons (Lf.TI.ok_mk (z := .map none) ((by kernel_rfl : Try.prog.underlying 57 = _)) (by kernel_rfl) (fun _ => Lf.Rel.nilm)) (
  Lf.AllOK.cons (Lf.TI.ok_mk (z := .nilFunc) (Lf.TK.ok_func (by kernel_rfl)) (by kernel_rfl) (fun _ => Lf.Rel.nilf)) (
  Lf.AllOK.cons (Lf.TI.ok_mk (z := .nilFunc) (Lf.TK.ok_func (by kernel_rfl)) (by kernel_rfl) (fun _ => Lf.Rel.nilf)) (
  Lf.AllOK.cons (Lf.TI.ok_mk (z := .agg #[.string ⟨#[]⟩, .int .i64 0, .int .i64 0, .int .i64 0, .string ⟨#[]⟩, .slice none 0 0]) (Lf.TK.ok_struct (by kernel_rfl)) (by kernel_rfl) (fun _ => ⟨_, rfl, ⟨.str ⟨#[]⟩, .int _ _, .int _ _, .int _ _, .str ⟨#[]⟩, .slnil, trivial⟩⟩)) (
  Lf.AllOK.cons (Lf.TI.ok_mk (z := .agg #[.string ⟨#[]⟩, .int .i64 0, .int .i64 0, .int .i64 0, .string ⟨#[]⟩, .slice none 0 0]) (Lf.TK.ok_struct (by kernel_rfl)) (by kernel_rfl) (fun _ => ⟨_, rfl, ⟨.str ⟨#[]⟩, .int _ _, .int _ _, .int _ _, .str ⟨#[]⟩, .slnil, trivial⟩⟩)) (
  Lf.AllOK.cons (Lf.TI.ok_mk (z := .nilFunc) (Lf.TK.ok_func (by kernel_rfl)) (by kernel_rfl) (fun _ => Lf.Rel.nilf)) (
  Lf.AllOK.cons (Lf.TI.ok_mk (z := .nilFunc) (Lf.TK.ok_func (by kernel_rfl)) (by kernel_rfl) (fun _ => Lf.Rel.nilf)) (
  Lf.AllOK.cons (Lf.TI.ok_mk (z := .agg #[.string ⟨#[]⟩, .bool false]) (Lf.TK.ok_struct (by kernel_rfl)) (by kernel_rfl) (fun _ => ⟨_, rfl, ⟨.str ⟨#[]⟩, .bool _, trivial⟩⟩)) (
  Lf.AllOK.cons (Lf.TI.ok_mk (z := .slice none 0 0) ((by kernel_rfl : Try.prog.underlying 65 = _)) (by kernel_rfl) (fun _ => Lf.Rel.slnil)) (
  Lf.AllOK.cons (Lf.TI.ok_mk (z := .nilFunc) (Lf.TK.ok_func (by kernel_rfl)) (by kernel_rfl) (fun _ => Lf.Rel.nilf)) (
  Lf.AllOK.cons (Lf.TI.ok_mk (z := .nilFunc) (Lf.TK.ok_func (by kernel_rfl)) (by kernel_rfl) (fun _ => Lf.Rel.nilf)) (
  Lf.AllOK.cons (Lf.TI.ok_mk (z := .agg #[.int .i64 0, .int .i64 0]) (Lf.TK.ok_struct (by kernel_rfl)) (by kernel_rfl) (fun _ => ⟨_, rfl, ⟨.int _ _, .int _ _, trivial⟩⟩)) (
  Lf.AllOK.cons (Lf.TI.ok_mk (z := .agg #[.int .i64 0, .int .i64 0]) (Lf.TK.ok_struct (by kernel_rfl)) (by kernel_rfl) (fun _ => ⟨_, rfl, ⟨.int _ _, .int _ _, trivial⟩⟩)) (
  Lf.AllOK.cons (Lf.TI.ok_mk (z := .nilFunc) (Lf.TK.ok_func (by kernel_rfl)) (by kernel_rfl) (fun _ => Lf.Rel.nilf)) (
  Lf.AllOK.cons (Lf.TI.ok_mk (z := .agg #[.string ⟨#[]⟩, .int .i64 0, .int .i64 0, .int .i64 0, .string ⟨#[]⟩, .slice none 0 0, .int .i64 0]) (Lf.TK.ok_struct (by kernel_rfl)) (by kernel_rfl) (fun _ => ⟨_, rfl, ⟨.str ⟨#[]⟩, .int _ _, .int _ _, .int _ _, .str ⟨#[]⟩, .slnil, .int _ _, trivial⟩⟩)) (
  Lf.AllOK.cons (Lf.TI.ok_mk (z := .agg #[.string ⟨#[]⟩, .int .i64 0, .int .i64 0, .int .i64 0, .string ⟨#[]⟩, .slice none 0 0, .int .i64 0]) (Lf.TK.ok_struct (by kernel_rfl)) (by kernel_rfl) (fun _ => ⟨_, rfl, ⟨.str ⟨#[]⟩, .int _ _, .int _ _, .int _ _, .str ⟨#[]⟩, .slnil, .int _ _, trivial⟩⟩)) (
  Lf.AllOK.cons (Lf.TI.ok_mk (z := .nilFunc) (Lf.TK.ok_func (by kernel_rfl)) (by kernel_rfl) (fun _ => Lf.Rel.nilf)) (
  Lf.AllOK.cons (Lf.TI.ok_mk (z := .nilFunc) (Lf.TK.ok_func (by kernel_rfl)) (by kernel_rfl) (fun _ => Lf.Rel.nilf)) (
  Lf.AllOK.cons (Lf.TI.ok_mk (z := .nilFunc) (Lf.TK.ok_func (by kernel_rfl)) (by kernel_rfl) (fun _ => Lf.Rel.nilf)) (
  Lf.AllOK.cons (Lf.TI.ok_mk (z := .nilFunc) (Lf.TK.ok_func (by kernel_rfl)) (by kernel_rfl) (fun _ => Lf.Rel.nilf)) (
  Lf.AllOK.cons (Lf.TI.ok_mk (z := .nilFunc) (Lf.TK.ok_func (by kernel_rfl)) (by kernel_rfl) (fun _ => Lf.Rel.nilf)) (
  Lf.AllOK.cons (Lf.TI.ok_mk (z := .nilFunc) (Lf.TK.ok_func (by kernel_rfl)) (by kernel_rfl) (fun _ => Lf.Rel.nilf)) (
  Lf.AllOK.cons (Lf.TI.ok_mk (z := .nilFunc) (Lf.TK.ok_func (by kernel_rfl)) (by kernel_rfl) (fun _ => Lf.Rel.nilf)) (
  Lf.AllOK.cons (Lf.TI.ok_mk (z := .nilFunc) (Lf.TK.ok_func (by kernel_rfl)) (by kernel_rfl) (fun _ => Lf.Rel.nilf)) (
  Lf.AllOK.cons (Lf.TI.ok_mk (z := .nilFunc) (Lf.TK.ok_func (by kernel_rfl)) (by kernel_rfl) (fun _ => Lf.Rel.nilf)) (
  Lf.AllOK.cons (Lf.TI.ok_mk (z := .nilFunc) (Lf.TK.ok_func (by kernel_rfl)) (by kernel_rfl) (fun _ => Lf.Rel.nilf)) (
  Lf.AllOK.cons (Lf.TI.ok_mk (z := .nilFunc) (Lf.TK.ok_func (by kernel_rfl)) (by kernel_rfl) (fun _ => Lf.Rel.nilf)) (
  Lf.AllOK.cons (Lf.TI.ok_mk (z := .nilFunc) (Lf.TK.ok_func (by kernel_rfl)) (by kernel_rfl) (fun _ => Lf.Rel.nilf)) (
  Lf.AllOK.cons (Lf.TI.ok_mk (z := .nilFunc) (Lf.TK.ok_func (by kernel_rfl)) (by kernel_rfl) (fun _ => Lf.Rel.nilf)) (
  Lf.AllOK.cons (Lf.TI.ok_mk (z := .nilFunc) (Lf.TK.ok_func (by kernel_rfl)) (by kernel_rfl) (fun _ => Lf.Rel.nilf)) (
  Lf.AllOK.cons (Lf.TI.ok_mk (z := .nilFunc) (Lf.TK.ok_func (by kernel_rfl)) (by kernel_rfl) (fun _ => Lf.Rel.nilf)) (
  Lf.AllOK.cons (Lf.TI.ok_mk (z := .nilFunc) (Lf.TK.ok_func (by kernel_rfl)) (by kernel_rfl) (fun _ => Lf.Rel.nilf)) (
  Lf.AllOK.cons (Lf.TI.ok_mk (z := .nilFunc) (Lf.TK.ok_func (by kernel_rfl)) (by kernel_rfl) (fun _ => Lf.Rel.nilf)) (
  Lf.AllOK.cons (Lf.TI.ok_mk (z := .nilFunc) (Lf.TK.ok_func (by kernel_rfl)) (by kernel_rfl) (fun _ => Lf.Rel.nilf)) (
  Lf.AllOK.cons (Lf.TI.ok_mk (z := .nilFunc) (Lf.TK.ok_func (by kernel_rfl)) (by kernel_rfl) (fun _ => Lf.Rel.nilf)) (
  Lf.AllOK.cons (Lf.TI.ok_mk (z := .nilFunc) (Lf.TK.ok_func (by kernel_rfl)) (by kernel_rfl) (fun _ => Lf.Rel.nilf)) (
  Lf.AllOK.cons (Lf.TI.ok_mk (z := .nilFunc) (Lf.TK.ok_func (by kernel_rfl)) (by kernel_rfl) (fun _ => Lf.Rel.nilf)) (
  Lf.AllOK.cons (Lf.TI.ok_mk (z := .nilFunc) (Lf.TK.ok_func (by kernel_rfl)) (by kernel_rfl) (fun _ => Lf.Rel.nilf)) (
  Lf.AllOK.cons (Lf.TI.ok_mk (z := .nilFunc) (Lf.TK.ok_func (by kernel_rfl)) (by kernel_rfl) (fun _ => Lf.Rel.nilf)) (
  Lf.AllOK.cons (Lf.TI.ok_mk (z := .nilFunc) (Lf.TK.ok_func (by kernel_rfl)) (by kernel_rfl) (fun _ => Lf.Rel.nilf)) (
  Lf.AllOK.cons (Lf.TI.ok_mk (z := .nilFunc) (Lf.TK.ok_func (by kernel_rfl)) (by kernel_rfl) (fun _ => Lf.Rel.nilf)) (
  Lf.AllOK.cons (Lf.TI.ok_mk (z := .nilFunc) (Lf.TK.ok_func (by kernel_rfl)) (by kernel_rfl) (fun _ => Lf.Rel.nilf)) (
  Lf.AllOK.cons (Lf.TI.ok_mk (z := .nilFunc) (Lf.TK.ok_func (by kernel_rfl)) (by kernel_rfl) (fun _ => Lf.Rel.nilf)) (
  Lf.AllOK.cons (Lf.TI.ok_mk (z := .nilFunc) (Lf.TK.ok_func (by kernel_rfl)) (by kernel_rfl) (fun _ => Lf.Rel.nilf)) (
  Lf.AllOK.cons (Lf.TI.ok_mk (z := .nilFunc) (Lf.TK.ok_func (by kernel_rfl)) (by kernel_rfl) (fun _ => Lf.Rel.nilf)) (
  Lf.AllOK.cons (Lf.TI.ok_mk (z := .nilFunc) (Lf.TK.ok_func (by kernel_rfl)) (by kernel_rfl) (fun _ => Lf.Rel.nilf)) (
  Lf.AllOK.cons (Lf.TI.ok_mk (z := .nilFunc) (Lf.TK.ok_func (by kernel_rfl)) (by kernel_rfl) (fun _ => Lf.Rel.nilf)) (
  Lf.AllOK.cons (Lf.TI.ok_mk (z := .nilFunc) (Lf.TK.ok_func (by kernel_rfl)) (by kernel_rfl) (fun _ => Lf.Rel.nilf)) (
  Lf.AllOK.cons (Lf.TI.ok_mk (z := .nilFunc) (Lf.TK.ok_func (by kernel_rfl)) (by kernel_rfl) (fun _ => Lf.Rel.nilf)) (
  Lf.AllOK.cons (Lf.TI.ok_mk (z := .nilFunc) (Lf.TK.ok_func (by kernel_rfl)) (by kernel_rfl) (fun _ => Lf.Rel.nilf)) (
  Lf.AllOK.cons (Lf.TI.ok_mk (z := .agg #[.pointer none, .pointer none, .pointer none, .string ⟨#[]⟩]) (Lf.TK.ok_struct (by kernel_rfl)) (by kernel_rfl) (fun _ => ⟨_, rfl, ⟨.nilp, .nilp, .nilp, .str ⟨#[]⟩, trivial⟩⟩)) (
  Lf.AllOK.cons (Lf.TI.ok_mk (z := .agg #[.pointer none, .pointer none, .pointer none, .string ⟨#[]⟩]) (Lf.TK.ok_struct (by kernel_rfl)) (by kernel_rfl) (fun _ => ⟨_, rfl, ⟨.nilp, .nilp, .nilp, .str ⟨#[]⟩, trivial⟩⟩)) (
  Lf.AllOK.cons (Lf.TI.ok_mk (z := .nilFunc) (Lf.TK.ok_func (by kernel_rfl)) (by kernel_rfl) (fun _ => Lf.Rel.nilf)) (
  Lf.AllOK.cons (Lf.TI.ok_mk (z := .int .u32 0) ((by kernel_rfl : Try.prog.underlying 113 = _)) (by kernel_rfl) (fun _ => Lf.Rel.int _ _)) (
  Lf.AllOK.cons (Lf.TI.ok_mk (z := .int .u8 0) ((by kernel_rfl : Try.prog.underlying 114 = _)) (by kernel_rfl) (fun _ => Lf.Rel.int _ _)) (
  Lf.AllOK.cons (Lf.TI.ok_mk (z := .int .u8 0) ((by kernel_rfl : Try.prog.underlying 115 = _)) (by kernel_rfl) (fun _ => Lf.Rel.int _ _)) (
  Lf.AllOK.cons (Lf.TI.ok_mk (z := .nilFunc) (Lf.TK.ok_func (by kernel_rfl)) (by kernel_rfl) (fun _ => Lf.Rel.nilf)) (
  Lf.AllOK.cons (Lf.TI.ok_mk (z := .pointer none) ((by kernel_rfl : Try.prog.underlying 117 = _)) (by kernel_rfl) (fun _ => Lf.Rel.nilp)) (
  Lf.AllOK.cons (Lf.TI.ok_mk (z := .int .i32 0) ((by kernel_rfl : Try.prog.underlying 118 = _)) (by kernel_rfl) (fun _ => Lf.Rel.int _ _)) (
  Lf.AllOK.cons (Lf.TI.ok_mk (z := .int .i32 0) ((by kernel_rfl : Try.prog.underlying 119 = _)) (by kernel_rfl) (fun _ => Lf.Rel.int _ _)) (
  Lf.AllOK.cons (Lf.TI.ok_mk (z := .agg #[.int .u64 0, .int .u64 0, .int .u32 0, .int .u8 0, .int .u8 0, .int .u8 0, .int .u8 0, .nilFunc, .pointer none, .int .i32 0, .int .i32 0]) (Lf.TK.ok_struct (by kernel_rfl)) (by kernel_rfl) (fun _ => ⟨_, rfl, ⟨.int _ _, .int _ _, .int _ _, .int _ _, .int _ _, .int _ _, .int _ _, .nilf, .nilp, .int _ _, .int _ _, trivial⟩⟩)) (
  Lf.AllOK.cons (Lf.TI.ok_mk (z := .agg #[.int .u64 0, .int .u64 0, .int .u32 0, .int .u8 0, .int .u8 0, .int .u8 0, .int .u8 0, .nilFunc, .pointer none, .int .i32 0, .int .i32 0]) (Lf.TK.ok_struct (by kernel_rfl)) (by kernel_rfl) (fun _ => ⟨_, rfl, ⟨.int _ _, .int _ _, .int _ _, .int _ _, .int _ _, .int _ _, .int _ _, .nilf, .nilp, .int _ _, .int _ _, trivial⟩⟩)) (
  Lf.AllOK.nil)))))))))))))))))))))))))))))))))))))))))))))))))))))))))))))))))))))))))))))))))))))))))))))))))))))))))))))))))))))
theorem mixed : Try.prog.follows .mixedOrders = true := by kernel_rfl
end Go.Proofs.Ytionjeodcmnneaa

