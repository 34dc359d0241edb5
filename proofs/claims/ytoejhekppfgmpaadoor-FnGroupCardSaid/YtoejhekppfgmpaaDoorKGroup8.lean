/- What the proof of FnGroup leans on, part 8: cut out of the texts of this claim's making by a program (wip/tools/pack.py). -/
import Derived.Test.YtoejhekppfgmpaaDoorKGroup7
import Derived.KernelRfl
import Derived.Test.YtoejhekppfgmpaaDoorProg
section
namespace Go.Proofs.YtoejhekppfgmpaaDoor.VeT
open Go Go.RowKit Go.Proofs.YtoejhekppfgmpaaDoor.Ve
set_option maxRecDepth 100000
def tys : List (Nat × TI) := [
  (2, ⟨false, 1, [.int .i64 0], [], 0, 0, false⟩),
  (3, ⟨false, 1, [.int .i64 0], [], 0, 0, false⟩),
  (4, ⟨false, 1, [.bool false], [], 0, 0, false⟩),
  (5, ⟨false, 1, [.int .u8 0], [], 0, 0, false⟩),
  (6, ⟨false, 1, [.int .u8 0], [], 0, 0, false⟩),
  (7, ⟨true, 4, [.int .i64 0, .int .i64 0, .bool false, .int .u8 0], [(0, 1, false), (1, 1, false), (2, 1, false), (3, 1, false)], 0, 0, false⟩),
  (8, ⟨true, 4, [.int .i64 0, .int .i64 0, .bool false, .int .u8 0], [(0, 1, false), (1, 1, false), (2, 1, false), (3, 1, false)], 0, 0, false⟩),
  (9, ⟨false, 1, [.string ⟨#[]⟩], [], 0, 0, false⟩),
  (10, ⟨false, 1, [.string ⟨#[]⟩], [], 0, 0, false⟩),
  (11, ⟨false, 1, [.string ⟨#[]⟩], [], 0, 0, false⟩),
  (12, ⟨false, 1, [.int .u64 0], [], 0, 0, false⟩),
  (13, ⟨true, 2, [.string ⟨#[]⟩, .int .u64 0], [(0, 1, false), (1, 1, false)], 0, 0, false⟩),
  (14, ⟨true, 2, [.string ⟨#[]⟩, .int .u64 0], [(0, 1, false), (1, 1, false)], 0, 0, false⟩),
  (15, ⟨false, 1, [.pointer none], [], 0, 0, false⟩),
  (16, ⟨false, 1, [.pointer none], [], 0, 0, false⟩),
  (17, ⟨false, 1, [.pointer none], [], 0, 0, false⟩),
  (18, ⟨true, 1, [.pointer none], [(0, 1, false)], 0, 0, false⟩),
  (19, ⟨true, 1, [.pointer none], [(0, 1, false)], 0, 0, false⟩),
  (20, ⟨false, 1, [.nilIface], [], 0, 0, false⟩),
  (21, ⟨false, 1, [.int .i32 0], [], 0, 0, false⟩),
  (22, ⟨false, 1, [.slice none 0 0], [], 0, 0, false⟩),
  (23, ⟨false, 1, [.int .u64 0], [], 0, 0, false⟩),
  (24, ⟨true, 3, [.int .u64 0, .int .u64 0, .bool false], [(0, 1, false), (1, 1, false), (2, 1, false)], 0, 0, false⟩),
  (25, ⟨true, 3, [.int .u64 0, .int .u64 0, .bool false], [(0, 1, false), (1, 1, false), (2, 1, false)], 0, 0, false⟩),
  (37, ⟨true, 3, [.int .u64 0, .int .u64 0, .bool false], [(0, 1, false), (1, 1, false), (2, 1, false)], 0, 0, false⟩),
  (38, ⟨true, 12, [.int .i64 0, .string ⟨#[]⟩, .int .u64 0, .int .u64 0, .bool false, .int .u64 0, .int .u64 0, .bool false, .string ⟨#[]⟩, .string ⟨#[]⟩, .string ⟨#[]⟩, .int .i64 0], [(0, 1, false), (1, 1, false), (2, 3, true), (5, 3, true), (8, 1, false), (9, 1, false), (10, 1, false), (11, 1, false)], 0, 0, false⟩),
  (39, ⟨true, 12, [.int .i64 0, .string ⟨#[]⟩, .int .u64 0, .int .u64 0, .bool false, .int .u64 0, .int .u64 0, .bool false, .string ⟨#[]⟩, .string ⟨#[]⟩, .string ⟨#[]⟩, .int .i64 0], [(0, 1, false), (1, 1, false), (2, 3, true), (5, 3, true), (8, 1, false), (9, 1, false), (10, 1, false), (11, 1, false)], 0, 0, false⟩),
  (42, ⟨true, 12, [.int .i64 0, .string ⟨#[]⟩, .int .u64 0, .int .u64 0, .bool false, .int .u64 0, .int .u64 0, .bool false, .string ⟨#[]⟩, .string ⟨#[]⟩, .string ⟨#[]⟩, .int .i64 0], [(0, 1, false), (1, 1, false), (2, 3, true), (5, 3, true), (8, 1, false), (9, 1, false), (10, 1, false), (11, 1, false)], 0, 0, false⟩),
  (43, ⟨true, 12, [.int .i64 0, .string ⟨#[]⟩, .int .u64 0, .int .u64 0, .bool false, .int .u64 0, .int .u64 0, .bool false, .string ⟨#[]⟩, .string ⟨#[]⟩, .string ⟨#[]⟩, .int .i64 0], [(0, 1, false), (1, 1, false), (2, 3, true), (5, 3, true), (8, 1, false), (9, 1, false), (10, 1, false), (11, 1, false)], 0, 0, false⟩),
  (46, ⟨true, 3, [.string ⟨#[]⟩, .string ⟨#[]⟩, .string ⟨#[]⟩], [(0, 1, false), (1, 1, false), (2, 1, false)], 0, 0, false⟩),
  (47, ⟨true, 3, [.string ⟨#[]⟩, .string ⟨#[]⟩, .string ⟨#[]⟩], [(0, 1, false), (1, 1, false), (2, 1, false)], 0, 0, false⟩),
  (65, ⟨true, 2, [.int .u64 0, .int .u64 0], [(0, 1, false), (1, 1, false)], 0, 0, false⟩),
  (66, ⟨true, 2, [.int .u64 0, .int .u64 0], [(0, 1, false), (1, 1, false)], 0, 0, false⟩),
  (79, ⟨false, 1, [.slice none 0 0], [], 0, 0, false⟩),
  (89, ⟨true, 3, [.int .u64 0, .int .u64 0, .bool false], [(0, 3, true)], 0, 0, false⟩),
  (90, ⟨true, 3, [.int .u64 0, .int .u64 0, .bool false], [(0, 3, true)], 0, 0, false⟩),
  (93, ⟨true, 1, [.int .u64 0], [(0, 1, false)], 0, 0, false⟩),
  (94, ⟨true, 1, [.int .u64 0], [(0, 1, false)], 0, 0, false⟩),
  (95, ⟨true, 3, [.int .u64 0, .int .u64 0, .int .u64 0], [], 3, 1, true⟩),
  (96, ⟨true, 3, [.int .u64 0, .int .u64 0, .int .u64 0], [], 3, 1, true⟩),
  (101, ⟨false, 1, [.int .u64 0], [], 0, 0, false⟩),
  (103, ⟨true, 0, [], [], 0, 0, false⟩),
  (104, ⟨true, 0, [], [], 0, 0, false⟩),
  (109, ⟨false, 1, [.pointer none], [], 0, 0, false⟩),
  (110, ⟨true, 3, [.bool false, .string ⟨#[]⟩, .bool false], [(0, 1, false), (1, 1, false), (2, 1, false)], 0, 0, false⟩),
  (111, ⟨true, 3, [.bool false, .string ⟨#[]⟩, .bool false], [(0, 1, false), (1, 1, false), (2, 1, false)], 0, 0, false⟩),
  (112, ⟨false, 1, [.slice none 0 0], [], 0, 0, false⟩),
  (116, ⟨false, 1, [.pointer none], [], 0, 0, false⟩),
  (120, ⟨true, 3, [.string ⟨#[]⟩, .string ⟨#[]⟩, .string ⟨#[]⟩], [], 3, 1, false⟩),
  (128, ⟨false, 1, [.int .i64 0], [], 0, 0, false⟩),
  (130, ⟨false, 1, [.string ⟨#[]⟩], [], 0, 0, false⟩),
  (131, ⟨false, 1, [.string ⟨#[]⟩], [], 0, 0, false⟩),
  (149, ⟨false, 1, [.slice none 0 0], [], 0, 0, false⟩),
  (150, ⟨false, 1, [.map none], [], 0, 0, false⟩),
  (152, ⟨false, 1, [.pointer none], [], 0, 0, false⟩),
  (153, ⟨true, 2, [.pointer none, .slice none 0 0], [(0, 1, false), (1, 1, false)], 0, 0, false⟩),
  (154, ⟨true, 2, [.pointer none, .slice none 0 0], [(0, 1, false), (1, 1, false)], 0, 0, false⟩),
  (156, ⟨false, 1, [.nilIface], [], 0, 0, false⟩),
  (157, ⟨false, 1, [.nilIface], [], 0, 0, false⟩),
  (163, ⟨false, 1, [.slice none 0 0], [], 0, 0, false⟩),
  (172, ⟨false, 1, [.pointer none], [], 0, 0, false⟩),
  (174, ⟨false, 1, [.pointer none], [], 0, 0, false⟩),
  (176, ⟨false, 1, [.int .u32 0], [], 0, 0, false⟩),
  (177, ⟨false, 1, [.slice none 0 0], [], 0, 0, false⟩),
  (181, ⟨false, 1, [.pointer none], [], 0, 0, false⟩),
  (184, ⟨false, 1, [.pointer none], [], 0, 0, false⟩),
  (185, ⟨false, 1, [.pointer none], [], 0, 0, false⟩),
  (187, ⟨false, 1, [.nilIface], [], 0, 0, false⟩),
  (188, ⟨false, 1, [.nilIface], [], 0, 0, false⟩),
  (191, ⟨true, 32, [.int .u8 0, .int .u8 0, .int .u8 0, .int .u8 0, .int .u8 0, .int .u8 0, .int .u8 0, .int .u8 0, .int .u8 0, .int .u8 0, .int .u8 0, .int .u8 0, .int .u8 0, .int .u8 0, .int .u8 0, .int .u8 0, .int .u8 0, .int .u8 0, .int .u8 0, .int .u8 0, .int .u8 0, .int .u8 0, .int .u8 0, .int .u8 0, .int .u8 0, .int .u8 0, .int .u8 0, .int .u8 0, .int .u8 0, .int .u8 0, .int .u8 0, .int .u8 0], [], 32, 1, false⟩),
  (194, ⟨true, 2, [.pointer none, .pointer none], [(0, 1, false), (1, 1, false)], 0, 0, false⟩),
  (195, ⟨true, 2, [.pointer none, .pointer none], [(0, 1, false), (1, 1, false)], 0, 0, false⟩),
  (196, ⟨true, 64, [.int .u8 0, .int .u8 0, .int .u8 0, .int .u8 0, .int .u8 0, .int .u8 0, .int .u8 0, .int .u8 0, .int .u8 0, .int .u8 0, .int .u8 0, .int .u8 0, .int .u8 0, .int .u8 0, .int .u8 0, .int .u8 0, .int .u8 0, .int .u8 0, .int .u8 0, .int .u8 0, .int .u8 0, .int .u8 0, .int .u8 0, .int .u8 0, .int .u8 0, .int .u8 0, .int .u8 0, .int .u8 0, .int .u8 0, .int .u8 0, .int .u8 0, .int .u8 0, .int .u8 0, .int .u8 0, .int .u8 0, .int .u8 0, .int .u8 0, .int .u8 0, .int .u8 0, .int .u8 0, .int .u8 0, .int .u8 0, .int .u8 0, .int .u8 0, .int .u8 0, .int .u8 0, .int .u8 0, .int .u8 0, .int .u8 0, .int .u8 0, .int .u8 0, .int .u8 0, .int .u8 0, .int .u8 0, .int .u8 0, .int .u8 0, .int .u8 0, .int .u8 0, .int .u8 0, .int .u8 0, .int .u8 0, .int .u8 0, .int .u8 0, .int .u8 0], [], 64, 1, false⟩),
  (198, ⟨false, 1, [.nilIface], [], 0, 0, false⟩),
  (199, ⟨false, 1, [.nilIface], [], 0, 0, false⟩),
  (200, ⟨false, 1, [.pointer none], [], 0, 0, false⟩),
  (202, ⟨true, 8, [.int .u32 0, .int .u32 0, .int .u32 0, .int .u32 0, .int .u32 0, .int .u32 0, .int .u32 0, .int .u32 0], [], 8, 1, false⟩),
  (203, ⟨true, 74, [.int .u32 0, .int .u32 0, .int .u32 0, .int .u32 0, .int .u32 0, .int .u32 0, .int .u32 0, .int .u32 0, .int .u8 0, .int .u8 0, .int .u8 0, .int .u8 0, .int .u8 0, .int .u8 0, .int .u8 0, .int .u8 0, .int .u8 0, .int .u8 0, .int .u8 0, .int .u8 0, .int .u8 0, .int .u8 0, .int .u8 0, .int .u8 0, .int .u8 0, .int .u8 0, .int .u8 0, .int .u8 0, .int .u8 0, .int .u8 0, .int .u8 0, .int .u8 0, .int .u8 0, .int .u8 0, .int .u8 0, .int .u8 0, .int .u8 0, .int .u8 0, .int .u8 0, .int .u8 0, .int .u8 0, .int .u8 0, .int .u8 0, .int .u8 0, .int .u8 0, .int .u8 0, .int .u8 0, .int .u8 0, .int .u8 0, .int .u8 0, .int .u8 0, .int .u8 0, .int .u8 0, .int .u8 0, .int .u8 0, .int .u8 0, .int .u8 0, .int .u8 0, .int .u8 0, .int .u8 0, .int .u8 0, .int .u8 0, .int .u8 0, .int .u8 0, .int .u8 0, .int .u8 0, .int .u8 0, .int .u8 0, .int .u8 0, .int .u8 0, .int .u8 0, .int .u8 0, .int .i64 0, .int .u64 0], [(0, 8, true), (8, 64, true), (72, 1, false), (73, 1, false)], 0, 0, false⟩),
  (204, ⟨true, 74, [.int .u32 0, .int .u32 0, .int .u32 0, .int .u32 0, .int .u32 0, .int .u32 0, .int .u32 0, .int .u32 0, .int .u8 0, .int .u8 0, .int .u8 0, .int .u8 0, .int .u8 0, .int .u8 0, .int .u8 0, .int .u8 0, .int .u8 0, .int .u8 0, .int .u8 0, .int .u8 0, .int .u8 0, .int .u8 0, .int .u8 0, .int .u8 0, .int .u8 0, .int .u8 0, .int .u8 0, .int .u8 0, .int .u8 0, .int .u8 0, .int .u8 0, .int .u8 0, .int .u8 0, .int .u8 0, .int .u8 0, .int .u8 0, .int .u8 0, .int .u8 0, .int .u8 0, .int .u8 0, .int .u8 0, .int .u8 0, .int .u8 0, .int .u8 0, .int .u8 0, .int .u8 0, .int .u8 0, .int .u8 0, .int .u8 0, .int .u8 0, .int .u8 0, .int .u8 0, .int .u8 0, .int .u8 0, .int .u8 0, .int .u8 0, .int .u8 0, .int .u8 0, .int .u8 0, .int .u8 0, .int .u8 0, .int .u8 0, .int .u8 0, .int .u8 0, .int .u8 0, .int .u8 0, .int .u8 0, .int .u8 0, .int .u8 0, .int .u8 0, .int .u8 0, .int .u8 0, .int .i64 0, .int .u64 0], [(0, 8, true), (8, 64, true), (72, 1, false), (73, 1, false)], 0, 0, false⟩),
  (211, ⟨true, 64, [.int .u32 0, .int .u32 0, .int .u32 0, .int .u32 0, .int .u32 0, .int .u32 0, .int .u32 0, .int .u32 0, .int .u32 0, .int .u32 0, .int .u32 0, .int .u32 0, .int .u32 0, .int .u32 0, .int .u32 0, .int .u32 0, .int .u32 0, .int .u32 0, .int .u32 0, .int .u32 0, .int .u32 0, .int .u32 0, .int .u32 0, .int .u32 0, .int .u32 0, .int .u32 0, .int .u32 0, .int .u32 0, .int .u32 0, .int .u32 0, .int .u32 0, .int .u32 0, .int .u32 0, .int .u32 0, .int .u32 0, .int .u32 0, .int .u32 0, .int .u32 0, .int .u32 0, .int .u32 0, .int .u32 0, .int .u32 0, .int .u32 0, .int .u32 0, .int .u32 0, .int .u32 0, .int .u32 0, .int .u32 0, .int .u32 0, .int .u32 0, .int .u32 0, .int .u32 0, .int .u32 0, .int .u32 0, .int .u32 0, .int .u32 0, .int .u32 0, .int .u32 0, .int .u32 0, .int .u32 0, .int .u32 0, .int .u32 0, .int .u32 0, .int .u32 0], [], 64, 1, false⟩),
  (212, ⟨true, 24, [.int .u8 0, .int .u8 0, .int .u8 0, .int .u8 0, .int .u8 0, .int .u8 0, .int .u8 0, .int .u8 0, .int .u8 0, .int .u8 0, .int .u8 0, .int .u8 0, .int .u8 0, .int .u8 0, .int .u8 0, .int .u8 0, .int .u8 0, .int .u8 0, .int .u8 0, .int .u8 0, .int .u8 0, .int .u8 0, .int .u8 0, .int .u8 0], [], 24, 1, false⟩),
  (219, ⟨true, 20, [.int .u64 0, .int .u64 0, .int .u64 0, .int .u64 0, .int .u64 0, .int .u64 0, .int .u64 0, .int .u64 0, .int .u64 0, .int .u64 0, .int .u64 0, .int .u64 0, .int .u64 0, .int .u64 0, .int .u64 0, .int .u64 0, .int .u64 0, .int .u64 0, .int .u64 0, .int .u64 0], [], 20, 1, false⟩),
  (220, ⟨true, 65, [.int .u8 0, .int .u8 0, .int .u8 0, .int .u8 0, .int .u8 0, .int .u8 0, .int .u8 0, .int .u8 0, .int .u8 0, .int .u8 0, .int .u8 0, .int .u8 0, .int .u8 0, .int .u8 0, .int .u8 0, .int .u8 0, .int .u8 0, .int .u8 0, .int .u8 0, .int .u8 0, .int .u8 0, .int .u8 0, .int .u8 0, .int .u8 0, .int .u8 0, .int .u8 0, .int .u8 0, .int .u8 0, .int .u8 0, .int .u8 0, .int .u8 0, .int .u8 0, .int .u8 0, .int .u8 0, .int .u8 0, .int .u8 0, .int .u8 0, .int .u8 0, .int .u8 0, .int .u8 0, .int .u8 0, .int .u8 0, .int .u8 0, .int .u8 0, .int .u8 0, .int .u8 0, .int .u8 0, .int .u8 0, .int .u8 0, .int .u8 0, .int .u8 0, .int .u8 0, .int .u8 0, .int .u8 0, .int .u8 0, .int .u8 0, .int .u8 0, .int .u8 0, .int .u8 0, .int .u8 0, .int .u8 0, .int .u8 0, .int .u8 0, .int .u8 0, .int .u8 0], [], 65, 1, false⟩),
  (223, ⟨false, 1, [.pointer none], [], 0, 0, false⟩),
  (224, ⟨true, 4, [.pointer none, .pointer none, .pointer none, .string ⟨#[]⟩], [(0, 1, false), (1, 1, false), (2, 1, false), (3, 1, false)], 0, 0, false⟩),
  (225, ⟨true, 4, [.pointer none, .pointer none, .pointer none, .string ⟨#[]⟩], [(0, 1, false), (1, 1, false), (2, 1, false), (3, 1, false)], 0, 0, false⟩),
  (226, ⟨true, 0, [], [], 0, 1, false⟩),
  (227, ⟨true, 0, [], [(0, 0, true)], 0, 0, false⟩),
  (228, ⟨true, 0, [], [(0, 0, true)], 0, 0, false⟩),
  (229, ⟨false, 1, [.int .u8 0], [], 0, 0, false⟩),
  (230, ⟨false, 1, [.int .u8 0], [], 0, 0, false⟩),
  (232, ⟨false, 1, [.int .i32 0], [], 0, 0, false⟩),
  (233, ⟨false, 1, [.int .i32 0], [], 0, 0, false⟩),
  (236, ⟨true, 1, [.string ⟨#[]⟩], [(0, 1, false)], 0, 0, false⟩),
  (237, ⟨true, 1, [.string ⟨#[]⟩], [(0, 1, false)], 0, 0, false⟩)]
def fns : List Nat := [3, 4, 5, 6, 7, 8, 9, 10, 11, 12, 13, 14, 15, 16, 17, 18, 19, 20, 21, 22, 23, 24, 25, 26, 27, 28, 29, 30, 31, 32, 33, 34, 35, 36, 37, 38, 39, 40, 41, 42, 43, 44, 45, 46, 47, 48, 49, 50, 51, 52, 53, 54, 55, 56, 57, 58, 59, 60, 61, 62, 63, 64, 65, 66, 67, 68, 69, 70, 71, 72, 73, 74, 75, 76, 77, 78, 79, 80, 81, 82, 83, 84, 85, 86, 87, 88, 89, 90, 91, 92, 93, 94, 95, 96, 97, 98, 99, 100, 101, 102, 103, 104, 105, 106, 107, 108, 109, 110, 111, 112, 113, 114, 115, 116, 117, 118, 119, 120, 121, 122, 123, 124, 125, 126, 130, 131, 132, 133, 134, 135, 136, 137, 138, 139, 140, 141, 142, 144, 145, 146, 148, 149, 150, 151, 152, 153, 154, 155, 156, 158, 159, 160, 164, 166, 167, 168, 169, 175, 207, 208, 209, 211, 2, 127, 128, 129, 143, 147, 157, 161, 162, 163, 165, 171, 172, 173, 174, 176, 177, 178, 179, 180, 181, 182, 183, 184, 186, 187, 188, 189, 190, 191, 221]
theorem tysOk : tys.map (fun e => tiOf Tryd.prog e.1) = tys.map (fun e => some e.2) := by kernel_rfl
theorem fnsOk : fns.all (callee Tryd.prog) = true := by kernel_rfl
theorem mixed : Tryd.prog.follows .mixedOrders = true := by kernel_rfl
theorem of_map {α β γ : Type} {f g : α → β} : ∀ {l : List α}, l.map f = l.map g → ∀ e ∈ l, f e = g e
  | a :: r, h, e, he => by
    rw [List.map_cons, List.map_cons, List.cons.injEq] at h
    rcases List.mem_cons.1 he with rfl | he
    · exact h.1
    · exact of_map (γ := γ) h.2 e he
noncomputable abbrev C (w : World) (Γ : World → Prop) (nt : Nat) : Cx := cx Tryd.prog w Γ nt tys fns
theorem good {w : World} {Γ : World → Prop} {nt : Nat} (h : ∀ W, Below w.heap.size w W → Γ W) : (C w Γ nt).Good :=
  ⟨fun W hk => h W (hk.toBelow (fun _ q => q)), of_map (γ := Unit) tysOk, fun f hf => List.all_eq_true.1 fnsOk f hf, mixed⟩
end Go.Proofs.YtoejhekppfgmpaaDoor.VeT
end
