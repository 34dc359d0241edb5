/- What the proof of FnKeys leans on, part 6: cut out of the texts of this claim's making by a program (wip/tools/pack.py). -/
import Derived.Test.YtgdcafbdkidamaaGreatDoorKKeys5
import Derived.KernelRfl
import Derived.Test.YtgdcafbdkidamaaGreatDoorProg
section
namespace Go.Proofs.YtgdcafbdkidamaaGreatDoor.VeT
open Go Go.RowKit Go.Proofs.YtgdcafbdkidamaaGreatDoor.Ve
set_option maxRecDepth 100000
def tys : List (Nat × TI) := [
  (2, ⟨false, 1, [.int .i64 0], [], 0, 0, false⟩),
  (3, ⟨false, 1, [.int .i64 0], [], 0, 0, false⟩),
  (4, ⟨false, 1, [.bool false], [], 0, 0, false⟩),
  (5, ⟨false, 1, [.int .u8 0], [], 0, 0, false⟩),
  (6, ⟨false, 1, [.int .u8 0], [], 0, 0, false⟩),
  (7, ⟨true, 4, [.int .i64 0, .int .i64 0, .bool false, .int .u8 0], [(0, 1, false), (1, 1, false), (2, 1, false), (3, 1, false)], 0, 0, false⟩),
  (8, ⟨true, 4, [.int .i64 0, .int .i64 0, .bool false, .int .u8 0], [(0, 1, false), (1, 1, false), (2, 1, false), (3, 1, false)], 0, 0, false⟩),
  (9, ⟨false, 1, [.string ⟨#[]⟩], [], 0, 0, false⟩),
  (10, ⟨false, 1, [.string ⟨#[]⟩], [], 0, 0, false⟩),
  (11, ⟨false, 1, [.string ⟨#[]⟩], [], 0, 0, false⟩),
  (12, ⟨false, 1, [.int .u64 0], [], 0, 0, false⟩),
  (13, ⟨true, 2, [.string ⟨#[]⟩, .int .u64 0], [(0, 1, false), (1, 1, false)], 0, 0, false⟩),
  (14, ⟨true, 2, [.string ⟨#[]⟩, .int .u64 0], [(0, 1, false), (1, 1, false)], 0, 0, false⟩),
  (15, ⟨false, 1, [.pointer none], [], 0, 0, false⟩),
  (16, ⟨false, 1, [.pointer none], [], 0, 0, false⟩),
  (17, ⟨false, 1, [.pointer none], [], 0, 0, false⟩),
  (18, ⟨true, 1, [.pointer none], [(0, 1, false)], 0, 0, false⟩),
  (19, ⟨true, 1, [.pointer none], [(0, 1, false)], 0, 0, false⟩),
  (20, ⟨false, 1, [.nilIface], [], 0, 0, false⟩),
  (21, ⟨false, 1, [.int .i32 0], [], 0, 0, false⟩),
  (22, ⟨false, 1, [.int .u64 0], [], 0, 0, false⟩),
  (23, ⟨true, 3, [.int .u64 0, .int .u64 0, .bool false], [(0, 1, false), (1, 1, false), (2, 1, false)], 0, 0, false⟩),
  (24, ⟨true, 3, [.int .u64 0, .int .u64 0, .bool false], [(0, 1, false), (1, 1, false), (2, 1, false)], 0, 0, false⟩),
  (25, ⟨false, 1, [.slice none 0 0], [], 0, 0, false⟩),
  (27, ⟨true, 3, [.int .u64 0, .int .u64 0, .bool false], [(0, 1, false), (1, 1, false), (2, 1, false)], 0, 0, false⟩),
  (31, ⟨false, 1, [.slice none 0 0], [], 0, 0, false⟩),
  (36, ⟨true, 2, [.int .u64 0, .int .u64 0], [(0, 1, false), (1, 1, false)], 0, 0, false⟩),
  (37, ⟨true, 2, [.int .u64 0, .int .u64 0], [(0, 1, false), (1, 1, false)], 0, 0, false⟩),
  (42, ⟨true, 2, [.int .u64 0, .int .u64 0], [(0, 1, false), (1, 1, false)], 0, 0, false⟩),
  (46, ⟨false, 1, [.slice none 0 0], [], 0, 0, false⟩),
  (59, ⟨true, 5, [.string ⟨#[]⟩, .int .u64 0, .int .u64 0, .bool false, .string ⟨#[]⟩], [(0, 1, false), (1, 3, true), (4, 1, false)], 0, 0, false⟩),
  (60, ⟨true, 5, [.string ⟨#[]⟩, .int .u64 0, .int .u64 0, .bool false, .string ⟨#[]⟩], [(0, 1, false), (1, 3, true), (4, 1, false)], 0, 0, false⟩),
  (70, ⟨true, 3, [.string ⟨#[]⟩, .string ⟨#[]⟩, .string ⟨#[]⟩], [(0, 1, false), (1, 1, false), (2, 1, false)], 0, 0, false⟩),
  (71, ⟨true, 3, [.string ⟨#[]⟩, .string ⟨#[]⟩, .string ⟨#[]⟩], [(0, 1, false), (1, 1, false), (2, 1, false)], 0, 0, false⟩),
  (77, ⟨false, 1, [.slice none 0 0], [], 0, 0, false⟩),
  (82, ⟨false, 1, [.int .i64 0], [], 0, 0, false⟩),
  (87, ⟨true, 1, [.int .u64 0], [(0, 1, false)], 0, 0, false⟩),
  (88, ⟨true, 1, [.int .u64 0], [(0, 1, false)], 0, 0, false⟩),
  (90, ⟨true, 0, [], [], 0, 0, false⟩),
  (91, ⟨true, 0, [], [], 0, 0, false⟩),
  (93, ⟨false, 1, [.int .u64 0], [], 0, 0, false⟩),
  (97, ⟨true, 3, [.int .u64 0, .int .u64 0, .bool false], [(0, 3, true)], 0, 0, false⟩),
  (98, ⟨true, 3, [.int .u64 0, .int .u64 0, .bool false], [(0, 3, true)], 0, 0, false⟩),
  (101, ⟨true, 1, [.int .u64 0], [(0, 1, false)], 0, 0, false⟩),
  (102, ⟨true, 3, [.int .u64 0, .int .u64 0, .int .u64 0], [], 3, 1, true⟩),
  (103, ⟨true, 3, [.int .u64 0, .int .u64 0, .int .u64 0], [], 3, 1, true⟩),
  (107, ⟨true, 3, [.string ⟨#[]⟩, .string ⟨#[]⟩, .int .u64 0], [(0, 1, false), (1, 1, false), (2, 1, false)], 0, 0, false⟩),
  (108, ⟨true, 3, [.string ⟨#[]⟩, .string ⟨#[]⟩, .int .u64 0], [(0, 1, false), (1, 1, false), (2, 1, false)], 0, 0, false⟩),
  (118, ⟨false, 1, [.string ⟨#[]⟩], [], 0, 0, false⟩),
  (128, ⟨false, 1, [.string ⟨#[]⟩], [], 0, 0, false⟩),
  (132, ⟨true, 3, [.string ⟨#[]⟩, .string ⟨#[]⟩, .string ⟨#[]⟩], [], 3, 1, false⟩),
  (138, ⟨true, 3, [.int .u64 0, .int .u64 0, .bool false], [(0, 1, false), (1, 1, false), (2, 1, false)], 0, 0, false⟩),
  (147, ⟨true, 0, [], [], 0, 0, false⟩),
  (152, ⟨false, 1, [.slice none 0 0], [], 0, 0, false⟩),
  (153, ⟨false, 1, [.pointer none], [], 0, 0, false⟩),
  (157, ⟨false, 1, [.slice none 0 0], [], 0, 0, false⟩),
  (158, ⟨false, 1, [.pointer none], [], 0, 0, false⟩),
  (159, ⟨true, 2, [.pointer none, .slice none 0 0], [(0, 1, false), (1, 1, false)], 0, 0, false⟩),
  (160, ⟨true, 2, [.pointer none, .slice none 0 0], [(0, 1, false), (1, 1, false)], 0, 0, false⟩),
  (161, ⟨false, 1, [.nilIface], [], 0, 0, false⟩),
  (162, ⟨false, 1, [.nilIface], [], 0, 0, false⟩),
  (167, ⟨false, 1, [.nilIface], [], 0, 0, false⟩),
  (168, ⟨false, 1, [.nilIface], [], 0, 0, false⟩),
  (171, ⟨false, 1, [.int .u32 0], [], 0, 0, false⟩),
  (172, ⟨false, 1, [.slice none 0 0], [], 0, 0, false⟩),
  (176, ⟨false, 1, [.pointer none], [], 0, 0, false⟩),
  (185, ⟨true, 2, [.pointer none, .pointer none], [(0, 1, false), (1, 1, false)], 0, 0, false⟩),
  (186, ⟨true, 2, [.pointer none, .pointer none], [(0, 1, false), (1, 1, false)], 0, 0, false⟩),
  (187, ⟨true, 64, [.int .u8 0, .int .u8 0, .int .u8 0, .int .u8 0, .int .u8 0, .int .u8 0, .int .u8 0, .int .u8 0, .int .u8 0, .int .u8 0, .int .u8 0, .int .u8 0, .int .u8 0, .int .u8 0, .int .u8 0, .int .u8 0, .int .u8 0, .int .u8 0, .int .u8 0, .int .u8 0, .int .u8 0, .int .u8 0, .int .u8 0, .int .u8 0, .int .u8 0, .int .u8 0, .int .u8 0, .int .u8 0, .int .u8 0, .int .u8 0, .int .u8 0, .int .u8 0, .int .u8 0, .int .u8 0, .int .u8 0, .int .u8 0, .int .u8 0, .int .u8 0, .int .u8 0, .int .u8 0, .int .u8 0, .int .u8 0, .int .u8 0, .int .u8 0, .int .u8 0, .int .u8 0, .int .u8 0, .int .u8 0, .int .u8 0, .int .u8 0, .int .u8 0, .int .u8 0, .int .u8 0, .int .u8 0, .int .u8 0, .int .u8 0, .int .u8 0, .int .u8 0, .int .u8 0, .int .u8 0, .int .u8 0, .int .u8 0, .int .u8 0, .int .u8 0], [], 64, 1, false⟩),
  (189, ⟨false, 1, [.nilIface], [], 0, 0, false⟩),
  (190, ⟨false, 1, [.nilIface], [], 0, 0, false⟩),
  (191, ⟨false, 1, [.pointer none], [], 0, 0, false⟩),
  (196, ⟨true, 8, [.int .u32 0, .int .u32 0, .int .u32 0, .int .u32 0, .int .u32 0, .int .u32 0, .int .u32 0, .int .u32 0], [], 8, 1, false⟩),
  (197, ⟨true, 74, [.int .u32 0, .int .u32 0, .int .u32 0, .int .u32 0, .int .u32 0, .int .u32 0, .int .u32 0, .int .u32 0, .int .u8 0, .int .u8 0, .int .u8 0, .int .u8 0, .int .u8 0, .int .u8 0, .int .u8 0, .int .u8 0, .int .u8 0, .int .u8 0, .int .u8 0, .int .u8 0, .int .u8 0, .int .u8 0, .int .u8 0, .int .u8 0, .int .u8 0, .int .u8 0, .int .u8 0, .int .u8 0, .int .u8 0, .int .u8 0, .int .u8 0, .int .u8 0, .int .u8 0, .int .u8 0, .int .u8 0, .int .u8 0, .int .u8 0, .int .u8 0, .int .u8 0, .int .u8 0, .int .u8 0, .int .u8 0, .int .u8 0, .int .u8 0, .int .u8 0, .int .u8 0, .int .u8 0, .int .u8 0, .int .u8 0, .int .u8 0, .int .u8 0, .int .u8 0, .int .u8 0, .int .u8 0, .int .u8 0, .int .u8 0, .int .u8 0, .int .u8 0, .int .u8 0, .int .u8 0, .int .u8 0, .int .u8 0, .int .u8 0, .int .u8 0, .int .u8 0, .int .u8 0, .int .u8 0, .int .u8 0, .int .u8 0, .int .u8 0, .int .u8 0, .int .u8 0, .int .i64 0, .int .u64 0], [(0, 8, true), (8, 64, true), (72, 1, false), (73, 1, false)], 0, 0, false⟩),
  (198, ⟨true, 74, [.int .u32 0, .int .u32 0, .int .u32 0, .int .u32 0, .int .u32 0, .int .u32 0, .int .u32 0, .int .u32 0, .int .u8 0, .int .u8 0, .int .u8 0, .int .u8 0, .int .u8 0, .int .u8 0, .int .u8 0, .int .u8 0, .int .u8 0, .int .u8 0, .int .u8 0, .int .u8 0, .int .u8 0, .int .u8 0, .int .u8 0, .int .u8 0, .int .u8 0, .int .u8 0, .int .u8 0, .int .u8 0, .int .u8 0, .int .u8 0, .int .u8 0, .int .u8 0, .int .u8 0, .int .u8 0, .int .u8 0, .int .u8 0, .int .u8 0, .int .u8 0, .int .u8 0, .int .u8 0, .int .u8 0, .int .u8 0, .int .u8 0, .int .u8 0, .int .u8 0, .int .u8 0, .int .u8 0, .int .u8 0, .int .u8 0, .int .u8 0, .int .u8 0, .int .u8 0, .int .u8 0, .int .u8 0, .int .u8 0, .int .u8 0, .int .u8 0, .int .u8 0, .int .u8 0, .int .u8 0, .int .u8 0, .int .u8 0, .int .u8 0, .int .u8 0, .int .u8 0, .int .u8 0, .int .u8 0, .int .u8 0, .int .u8 0, .int .u8 0, .int .u8 0, .int .u8 0, .int .i64 0, .int .u64 0], [(0, 8, true), (8, 64, true), (72, 1, false), (73, 1, false)], 0, 0, false⟩),
  (199, ⟨false, 1, [.pointer none], [], 0, 0, false⟩),
  (206, ⟨true, 64, [.int .u32 0, .int .u32 0, .int .u32 0, .int .u32 0, .int .u32 0, .int .u32 0, .int .u32 0, .int .u32 0, .int .u32 0, .int .u32 0, .int .u32 0, .int .u32 0, .int .u32 0, .int .u32 0, .int .u32 0, .int .u32 0, .int .u32 0, .int .u32 0, .int .u32 0, .int .u32 0, .int .u32 0, .int .u32 0, .int .u32 0, .int .u32 0, .int .u32 0, .int .u32 0, .int .u32 0, .int .u32 0, .int .u32 0, .int .u32 0, .int .u32 0, .int .u32 0, .int .u32 0, .int .u32 0, .int .u32 0, .int .u32 0, .int .u32 0, .int .u32 0, .int .u32 0, .int .u32 0, .int .u32 0, .int .u32 0, .int .u32 0, .int .u32 0, .int .u32 0, .int .u32 0, .int .u32 0, .int .u32 0, .int .u32 0, .int .u32 0, .int .u32 0, .int .u32 0, .int .u32 0, .int .u32 0, .int .u32 0, .int .u32 0, .int .u32 0, .int .u32 0, .int .u32 0, .int .u32 0, .int .u32 0, .int .u32 0, .int .u32 0, .int .u32 0], [], 64, 1, false⟩),
  (210, ⟨true, 24, [.int .u8 0, .int .u8 0, .int .u8 0, .int .u8 0, .int .u8 0, .int .u8 0, .int .u8 0, .int .u8 0, .int .u8 0, .int .u8 0, .int .u8 0, .int .u8 0, .int .u8 0, .int .u8 0, .int .u8 0, .int .u8 0, .int .u8 0, .int .u8 0, .int .u8 0, .int .u8 0, .int .u8 0, .int .u8 0, .int .u8 0, .int .u8 0], [], 24, 1, false⟩),
  (214, ⟨true, 32, [.int .u8 0, .int .u8 0, .int .u8 0, .int .u8 0, .int .u8 0, .int .u8 0, .int .u8 0, .int .u8 0, .int .u8 0, .int .u8 0, .int .u8 0, .int .u8 0, .int .u8 0, .int .u8 0, .int .u8 0, .int .u8 0, .int .u8 0, .int .u8 0, .int .u8 0, .int .u8 0, .int .u8 0, .int .u8 0, .int .u8 0, .int .u8 0, .int .u8 0, .int .u8 0, .int .u8 0, .int .u8 0, .int .u8 0, .int .u8 0, .int .u8 0, .int .u8 0], [], 32, 1, false⟩),
  (218, ⟨true, 20, [.int .u64 0, .int .u64 0, .int .u64 0, .int .u64 0, .int .u64 0, .int .u64 0, .int .u64 0, .int .u64 0, .int .u64 0, .int .u64 0, .int .u64 0, .int .u64 0, .int .u64 0, .int .u64 0, .int .u64 0, .int .u64 0, .int .u64 0, .int .u64 0, .int .u64 0, .int .u64 0], [], 20, 1, false⟩),
  (219, ⟨true, 65, [.int .u8 0, .int .u8 0, .int .u8 0, .int .u8 0, .int .u8 0, .int .u8 0, .int .u8 0, .int .u8 0, .int .u8 0, .int .u8 0, .int .u8 0, .int .u8 0, .int .u8 0, .int .u8 0, .int .u8 0, .int .u8 0, .int .u8 0, .int .u8 0, .int .u8 0, .int .u8 0, .int .u8 0, .int .u8 0, .int .u8 0, .int .u8 0, .int .u8 0, .int .u8 0, .int .u8 0, .int .u8 0, .int .u8 0, .int .u8 0, .int .u8 0, .int .u8 0, .int .u8 0, .int .u8 0, .int .u8 0, .int .u8 0, .int .u8 0, .int .u8 0, .int .u8 0, .int .u8 0, .int .u8 0, .int .u8 0, .int .u8 0, .int .u8 0, .int .u8 0, .int .u8 0, .int .u8 0, .int .u8 0, .int .u8 0, .int .u8 0, .int .u8 0, .int .u8 0, .int .u8 0, .int .u8 0, .int .u8 0, .int .u8 0, .int .u8 0, .int .u8 0, .int .u8 0, .int .u8 0, .int .u8 0, .int .u8 0, .int .u8 0, .int .u8 0, .int .u8 0], [], 65, 1, false⟩),
  (222, ⟨false, 1, [.pointer none], [], 0, 0, false⟩),
  (223, ⟨true, 4, [.pointer none, .pointer none, .pointer none, .string ⟨#[]⟩], [(0, 1, false), (1, 1, false), (2, 1, false), (3, 1, false)], 0, 0, false⟩),
  (224, ⟨true, 4, [.pointer none, .pointer none, .pointer none, .string ⟨#[]⟩], [(0, 1, false), (1, 1, false), (2, 1, false), (3, 1, false)], 0, 0, false⟩),
  (225, ⟨true, 0, [], [], 0, 1, false⟩),
  (226, ⟨true, 0, [], [(0, 0, true)], 0, 0, false⟩),
  (227, ⟨true, 0, [], [(0, 0, true)], 0, 0, false⟩),
  (228, ⟨false, 1, [.int .u8 0], [], 0, 0, false⟩),
  (229, ⟨false, 1, [.int .u8 0], [], 0, 0, false⟩),
  (231, ⟨false, 1, [.int .i32 0], [], 0, 0, false⟩),
  (232, ⟨false, 1, [.int .i32 0], [], 0, 0, false⟩),
  (236, ⟨true, 1, [.string ⟨#[]⟩], [(0, 1, false)], 0, 0, false⟩),
  (237, ⟨true, 1, [.string ⟨#[]⟩], [(0, 1, false)], 0, 0, false⟩)]
def fns : List Nat := [3, 4, 5, 6, 7, 8, 9, 10, 11, 12, 13, 14, 15, 16, 17, 18, 19, 20, 21, 22, 23, 24, 25, 26, 27, 28, 29, 30, 31, 32, 33, 34, 35, 36, 37, 38, 39, 40, 41, 42, 43, 44, 45, 46, 47, 48, 49, 50, 51, 52, 53, 54, 55, 56, 57, 58, 59, 60, 61, 62, 63, 64, 65, 66, 67, 68, 69, 70, 71, 72, 73, 74, 75, 76, 77, 78, 79, 80, 81, 82, 83, 84, 85, 86, 87, 88, 89, 90, 91, 92, 93, 94, 95, 96, 97, 98, 99, 100, 101, 102, 103, 104, 105, 106, 107, 108, 109, 110, 111, 112, 113, 114, 115, 116, 117, 118, 119, 120, 121, 122, 123, 124, 125, 126, 128, 129, 130, 133, 134, 135, 136, 137, 139, 142, 143, 144, 145, 147, 148, 149, 150, 151, 152, 154, 155, 158, 160, 161, 162, 163, 164, 165, 172, 173, 181, 206, 207, 208, 209, 210, 211, 2, 127, 131, 132, 138, 140, 141, 146, 153, 156, 157, 159, 167, 168, 169, 170, 171, 174, 175, 176, 177, 178, 179, 180, 183, 184, 185, 186, 187, 188, 222]
theorem tysOk : tys.map (fun e => tiOf Tryz.prog e.1) = tys.map (fun e => some e.2) := by kernel_rfl
theorem fnsOk : fns.all (callee Tryz.prog) = true := by kernel_rfl
theorem mixed : Tryz.prog.follows .mixedOrders = true := by kernel_rfl
theorem of_map {α β γ : Type} {f g : α → β} : ∀ {l : List α}, l.map f = l.map g → ∀ e ∈ l, f e = g e
  | a :: r, h, e, he => by
    rw [List.map_cons, List.map_cons, List.cons.injEq] at h
    rcases List.mem_cons.1 he with rfl | he
    · exact h.1
    · exact of_map (γ := γ) h.2 e he
noncomputable abbrev C (w : World) (Γ : World → Prop) (nt : Nat) : Cx := cx Tryz.prog w Γ nt tys fns
theorem good {w : World} {Γ : World → Prop} {nt : Nat} (h : ∀ W, Below w.heap.size w W → Γ W) : (C w Γ nt).Good :=
  ⟨fun W hk => h W (hk.toBelow (fun _ q => q)), of_map (γ := Unit) tysOk, fun f hf => List.all_eq_true.1 fnsOk f hf, mixed⟩
end Go.Proofs.YtgdcafbdkidamaaGreatDoor.VeT
end
