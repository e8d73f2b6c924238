/- The seat's own table: types, functions that are entered, methods. By a program of ours (wip/tools/base.py). -/
import Derived.Test.YtkcoemikglbomaaRows
import Derived.Test.YtkcoemikglbomaaShort
import Derived.KernelRfl
namespace Go.Proofs.Ytkcoemikglbomaa
open Go Go.Sk Go.RowKit
def tab : List (Nat × TI) := [
  (0, ⟨.tuple #[], 1, [.tuple #[]], 0⟩),
  (1, ⟨.func #[] #[] false, 1, [.nilFunc], 8⟩),
  (2, ⟨.int .i64, 1, [.int .i64 (0)], 8⟩),
  (3, ⟨.int .i64, 1, [.int .i64 (0)], 8⟩),
  (4, ⟨.bool, 1, [.bool false], 1⟩),
  (5, ⟨.int .u8, 1, [.int .u8 (0)], 1⟩),
  (6, ⟨.int .u8, 1, [.int .u8 (0)], 1⟩),
  (9, ⟨.string, 1, [.string ⟨#[]⟩], 16⟩),
  (10, ⟨.string, 1, [.string ⟨#[]⟩], 16⟩),
  (11, ⟨.string, 1, [.string ⟨#[]⟩], 16⟩),
  (12, ⟨.int .u64, 1, [.int .u64 (0)], 8⟩),
  (15, ⟨.pointer 85, 1, [.pointer none], 8⟩),
  (16, ⟨.pointer 88, 1, [.pointer none], 8⟩),
  (17, ⟨.pointer 98, 1, [.pointer none], 8⟩),
  (20, ⟨.interface #[], 1, [.nilIface], 16⟩),
  (21, ⟨.int .i32, 1, [.int .i32 (0)], 4⟩),
  (22, ⟨.slice 26, 1, [.slice none 0 0], 24⟩),
  (23, ⟨.struct #[⟨ "ID", 2, 0, false, "", "", 0⟩, ⟨ "Seller", 3, 1, false, "", "", 8⟩, ⟨ "Inst", 3, 2, false, "", "", 16⟩, ⟨ "Sealed", 4, 3, false, "", "", 24⟩, ⟨ "Qty", 2, 4, false, "", "", 32⟩, ⟨ "Reserve", 2, 5, false, "", "", 40⟩, ⟨ "Step", 2, 6, false, "", "", 48⟩, ⟨ "End", 2, 7, false, "", "", 56⟩, ⟨ "Bids", 22, 8, false, "", "", 64⟩], 9, [.int .i64 (0), .int .i64 (0), .int .i64 (0), .bool false, .int .i64 (0), .int .i64 (0), .int .i64 (0), .int .i64 (0), .slice none 0 0], 88⟩),
  (24, ⟨.struct #[⟨ "ID", 2, 0, false, "", "", 0⟩, ⟨ "Seller", 3, 1, false, "", "", 8⟩, ⟨ "Inst", 3, 2, false, "", "", 16⟩, ⟨ "Sealed", 4, 3, false, "", "", 24⟩, ⟨ "Qty", 2, 4, false, "", "", 32⟩, ⟨ "Reserve", 2, 5, false, "", "", 40⟩, ⟨ "Step", 2, 6, false, "", "", 48⟩, ⟨ "End", 2, 7, false, "", "", 56⟩, ⟨ "Bids", 22, 8, false, "", "", 64⟩], 9, [.int .i64 (0), .int .i64 (0), .int .i64 (0), .bool false, .int .i64 (0), .int .i64 (0), .int .i64 (0), .int .i64 (0), .slice none 0 0], 88⟩),
  (25, ⟨.struct #[⟨ "Acct", 3, 0, false, "", "", 0⟩, ⟨ "Amount", 2, 1, false, "", "", 8⟩], 2, [.int .i64 (0), .int .i64 (0)], 16⟩),
  (26, ⟨.struct #[⟨ "Acct", 3, 0, false, "", "", 0⟩, ⟨ "Amount", 2, 1, false, "", "", 8⟩], 2, [.int .i64 (0), .int .i64 (0)], 16⟩),
  (27, ⟨.func #[] #[4] false, 1, [.nilFunc], 8⟩),
  (28, ⟨.func #[24] #[24] false, 1, [.nilFunc], 8⟩),
  (29, ⟨.int .i64, 1, [.int .i64 (0)], 8⟩),
  (30, ⟨.tuple #[24, 29], 1, [.tuple #[.agg #[.int .i64 (0), .int .i64 (0), .int .i64 (0), .bool false, .int .i64 (0), .int .i64 (0), .int .i64 (0), .int .i64 (0), .slice none 0 0], .int .i64 (0)]], 0⟩),
  (31, ⟨.func #[24, 26] #[24, 29] false, 1, [.nilFunc], 8⟩),
  (32, ⟨.func #[24, 24] #[4] false, 1, [.nilFunc], 8⟩),
  (33, ⟨.func #[24, 26] #[4] false, 1, [.nilFunc], 8⟩),
  (34, ⟨.int .u64, 1, [.int .u64 (0)], 8⟩),
  (35, ⟨.func #[24] #[4] false, 1, [.nilFunc], 8⟩),
  (36, ⟨.tuple #[26, 4], 1, [.tuple #[.agg #[.int .i64 (0), .int .i64 (0)], .bool false]], 0⟩),
  (37, ⟨.func #[24] #[26, 4] false, 1, [.nilFunc], 8⟩),
  (38, ⟨.func #[24, 3, 2] #[4] false, 1, [.nilFunc], 8⟩),
  (39, ⟨.slice 24, 1, [.slice none 0 0], 24⟩),
  (40, ⟨.func #[39] #[4] false, 1, [.nilFunc], 8⟩),
  (41, ⟨.func #[39] #[39] false, 1, [.nilFunc], 8⟩),
  (42, ⟨.func #[24] #[2] false, 1, [.nilFunc], 8⟩),
  (43, ⟨.func #[24, 2] #[4] false, 1, [.nilFunc], 8⟩),
  (44, ⟨.slice 2, 1, [.slice none 0 0], 24⟩),
  (45, ⟨.func #[39, 2] #[44] false, 1, [.nilFunc], 8⟩),
  (46, ⟨.func #[44, 44] #[4] false, 1, [.nilFunc], 8⟩),
  (47, ⟨.func #[39, 24, 2] #[4] false, 1, [.nilFunc], 8⟩),
  (48, ⟨.func #[24, 3] #[4] false, 1, [.nilFunc], 8⟩),
  (49, ⟨.tuple #[24, 4], 1, [.tuple #[.agg #[.int .i64 (0), .int .i64 (0), .int .i64 (0), .bool false, .int .i64 (0), .int .i64 (0), .int .i64 (0), .int .i64 (0), .slice none 0 0], .bool false]], 0⟩),
  (50, ⟨.func #[39, 2] #[24, 4] false, 1, [.nilFunc], 8⟩),
  (51, ⟨.func #[39, 2, 2] #[4] false, 1, [.nilFunc], 8⟩),
  (52, ⟨.func #[2, 2, 22] #[24] true, 1, [.nilFunc], 8⟩),
  (53, ⟨.tuple #[2, 2], 1, [.tuple #[.int .i64 (0), .int .i64 (0)]], 0⟩),
  (54, ⟨.func #[24, 3] #[2, 2] false, 1, [.nilFunc], 8⟩),
  (55, ⟨.func #[2, 22] #[24] true, 1, [.nilFunc], 8⟩),
  (56, ⟨.func #[39, 24, 24, 2, 3] #[4] false, 1, [.nilFunc], 8⟩),
  (57, ⟨.func #[2, 2] #[4] false, 1, [.nilFunc], 8⟩),
  (58, ⟨.func #[3, 3] #[4] false, 1, [.nilFunc], 8⟩),
  (59, ⟨.tuple #[22, 29], 1, [.tuple #[.slice none 0 0, .int .i64 (0)]], 0⟩),
  (60, ⟨.interface #[("souk/auction.least", 42), ("souk/auction.may", 35), ("souk/auction.take", 63), ("souk/auction.wins", 37)], 1, [.nilIface], 16⟩),
  (61, ⟨.interface #[("souk/auction.least", 42), ("souk/auction.may", 35), ("souk/auction.take", 63), ("souk/auction.wins", 37)], 1, [.nilIface], 16⟩),
  (62, ⟨.func #[24] #[61] false, 1, [.nilFunc], 8⟩),
  (63, ⟨.func #[24, 26] #[22, 29] false, 1, [.nilFunc], 8⟩),
  (64, ⟨.func #[22] #[3] false, 1, [.nilFunc], 8⟩),
  (65, ⟨.slice 4, 1, [.slice none 0 0], 24⟩),
  (66, ⟨.func #[39, 35] #[39] false, 1, [.nilFunc], 8⟩),
  (67, ⟨.func #[39, 69] #[] false, 1, [.nilFunc], 8⟩),
  (68, ⟨.func #[2, 2] #[3] false, 1, [.nilFunc], 8⟩),
  (69, ⟨.func #[24, 24] #[3] false, 1, [.nilFunc], 8⟩),
  (70, ⟨.func #[39, 35] #[3] false, 1, [.nilFunc], 8⟩),
  (71, ⟨.func #[22, 22] #[4] false, 1, [.nilFunc], 8⟩),
  (72, ⟨.struct #[], 0, [], 0⟩),
  (73, ⟨.struct #[], 0, [], 0⟩),
  (74, ⟨.struct #[], 0, [], 0⟩),
  (75, ⟨.func #[26] #[4] false, 1, [.nilFunc], 8⟩),
  (76, ⟨.func #[22, 75] #[4] false, 1, [.nilFunc], 8⟩),
  (77, ⟨.func #[39, 3, 69] #[] false, 1, [.nilFunc], 8⟩),
  (78, ⟨.func #[2] #[4] false, 1, [.nilFunc], 8⟩),
  (79, ⟨.func #[22] #[22] false, 1, [.nilFunc], 8⟩),
  (80, ⟨.func #[22, 75] #[3] false, 1, [.nilFunc], 8⟩),
  (81, ⟨.func #[39, 3, 3, 69] #[] false, 1, [.nilFunc], 8⟩),
  (82, ⟨.func #[39, 3, 3, 3, 69] #[] false, 1, [.nilFunc], 8⟩),
  (83, ⟨.func #[] #[9] false, 1, [.nilFunc], 8⟩),
  (86, ⟨.array 0 16, 0, [], 0⟩),
  (89, ⟨.func #[] #[3] false, 1, [.nilFunc], 8⟩),
  (90, ⟨.int .u32, 1, [.int .u32 (0)], 4⟩),
  (91, ⟨.int .u8, 1, [.int .u8 (0)], 1⟩),
  (92, ⟨.int .u8, 1, [.int .u8 (0)], 1⟩),
  (93, ⟨.func #[109, 109] #[4] false, 1, [.nilFunc], 8⟩),
  (94, ⟨.pointer 5, 1, [.pointer none], 8⟩),
  (95, ⟨.int .i32, 1, [.int .i32 (0)], 4⟩),
  (96, ⟨.int .i32, 1, [.int .i32 (0)], 4⟩),
  (97, ⟨.struct #[⟨ "Size_", 12, 0, false, "", "", 0⟩, ⟨ "PtrBytes", 12, 1, false, "", "", 8⟩, ⟨ "Hash", 90, 2, false, "", "", 16⟩, ⟨ "TFlag", 91, 3, false, "", "", 20⟩, ⟨ "Align_", 5, 4, false, "", "", 21⟩, ⟨ "FieldAlign_", 5, 5, false, "", "", 22⟩, ⟨ "Kind_", 92, 6, false, "", "", 23⟩, ⟨ "Equal", 93, 7, false, "", "", 24⟩, ⟨ "GCData", 94, 8, false, "", "", 32⟩, ⟨ "Str", 95, 9, false, "", "", 40⟩, ⟨ "PtrToThis", 96, 10, false, "", "", 44⟩], 11, [.int .u64 (0), .int .u64 (0), .int .u32 (0), .int .u8 (0), .int .u8 (0), .int .u8 (0), .int .u8 (0), .nilFunc, .pointer none, .int .i32 (0), .int .i32 (0)], 48⟩),
  (98, ⟨.struct #[⟨ "Size_", 12, 0, false, "", "", 0⟩, ⟨ "PtrBytes", 12, 1, false, "", "", 8⟩, ⟨ "Hash", 90, 2, false, "", "", 16⟩, ⟨ "TFlag", 91, 3, false, "", "", 20⟩, ⟨ "Align_", 5, 4, false, "", "", 21⟩, ⟨ "FieldAlign_", 5, 5, false, "", "", 22⟩, ⟨ "Kind_", 92, 6, false, "", "", 23⟩, ⟨ "Equal", 93, 7, false, "", "", 24⟩, ⟨ "GCData", 94, 8, false, "", "", 32⟩, ⟨ "Str", 95, 9, false, "", "", 40⟩, ⟨ "PtrToThis", 96, 10, false, "", "", 44⟩], 11, [.int .u64 (0), .int .u64 (0), .int .u32 (0), .int .u8 (0), .int .u8 (0), .int .u8 (0), .int .u8 (0), .nilFunc, .pointer none, .int .i32 (0), .int .i32 (0)], 48⟩),
  (99, ⟨.tuple #[2, 29], 1, [.tuple #[.int .i64 (0), .int .i64 (0)]], 0⟩),
  (100, ⟨.func #[2, 2] #[2, 29] false, 1, [.nilFunc], 8⟩),
  (101, ⟨.func #[44] #[2, 29] true, 1, [.nilFunc], 8⟩),
  (102, ⟨.int .u64, 1, [.int .u64 (0)], 8⟩),
  (103, ⟨.struct #[⟨ "high", 2, 0, false, "", "souk/money", 0⟩, ⟨ "low", 102, 1, false, "", "souk/money", 8⟩], 2, [.int .i64 (0), .int .u64 (0)], 16⟩),
  (104, ⟨.struct #[⟨ "high", 2, 0, false, "", "souk/money", 0⟩, ⟨ "low", 102, 1, false, "", "souk/money", 8⟩], 2, [.int .i64 (0), .int .u64 (0)], 16⟩),
  (105, ⟨.func #[2] #[104] false, 1, [.nilFunc], 8⟩),
  (106, ⟨.func #[] #[2, 29] false, 1, [.nilFunc], 8⟩),
  (107, ⟨.tuple #[102, 102], 1, [.tuple #[.int .u64 (0), .int .u64 (0)]], 0⟩),
  (108, ⟨.func #[102, 102, 102] #[102, 102] false, 1, [.nilFunc], 8⟩),
  (109, ⟨.unsafePointer, 1, [.pointer none], 8⟩)
]
set_option maxRecDepth 100000 in
theorem tab_ok : ∀ p ∈ tab, Try.prog.underlying p.1 = some p.2.d ∧ (Try.prog.info? p.1).map (fun i => (i.size, i.zero.map Value.cells, i.bytes)) = some (p.2.size, some p.2.zero.toArray, p.2.bytes) :=
  al ⟨by kernel_rfl, by kernel_rfl⟩ <|
  al ⟨by kernel_rfl, by kernel_rfl⟩ <|
  al ⟨by kernel_rfl, by kernel_rfl⟩ <|
  al ⟨by kernel_rfl, by kernel_rfl⟩ <|
  al ⟨by kernel_rfl, by kernel_rfl⟩ <|
  al ⟨by kernel_rfl, by kernel_rfl⟩ <|
  al ⟨by kernel_rfl, by kernel_rfl⟩ <|
  al ⟨by kernel_rfl, by kernel_rfl⟩ <|
  al ⟨by kernel_rfl, by kernel_rfl⟩ <|
  al ⟨by kernel_rfl, by kernel_rfl⟩ <|
  al ⟨by kernel_rfl, by kernel_rfl⟩ <|
  al ⟨by kernel_rfl, by kernel_rfl⟩ <|
  al ⟨by kernel_rfl, by kernel_rfl⟩ <|
  al ⟨by kernel_rfl, by kernel_rfl⟩ <|
  al ⟨by kernel_rfl, by kernel_rfl⟩ <|
  al ⟨by kernel_rfl, by kernel_rfl⟩ <|
  al ⟨by kernel_rfl, by kernel_rfl⟩ <|
  al ⟨by kernel_rfl, by kernel_rfl⟩ <|
  al ⟨by kernel_rfl, by kernel_rfl⟩ <|
  al ⟨by kernel_rfl, by kernel_rfl⟩ <|
  al ⟨by kernel_rfl, by kernel_rfl⟩ <|
  al ⟨by kernel_rfl, by kernel_rfl⟩ <|
  al ⟨by kernel_rfl, by kernel_rfl⟩ <|
  al ⟨by kernel_rfl, by kernel_rfl⟩ <|
  al ⟨by kernel_rfl, by kernel_rfl⟩ <|
  al ⟨by kernel_rfl, by kernel_rfl⟩ <|
  al ⟨by kernel_rfl, by kernel_rfl⟩ <|
  al ⟨by kernel_rfl, by kernel_rfl⟩ <|
  al ⟨by kernel_rfl, by kernel_rfl⟩ <|
  al ⟨by kernel_rfl, by kernel_rfl⟩ <|
  al ⟨by kernel_rfl, by kernel_rfl⟩ <|
  al ⟨by kernel_rfl, by kernel_rfl⟩ <|
  al ⟨by kernel_rfl, by kernel_rfl⟩ <|
  al ⟨by kernel_rfl, by kernel_rfl⟩ <|
  al ⟨by kernel_rfl, by kernel_rfl⟩ <|
  al ⟨by kernel_rfl, by kernel_rfl⟩ <|
  al ⟨by kernel_rfl, by kernel_rfl⟩ <|
  al ⟨by kernel_rfl, by kernel_rfl⟩ <|
  al ⟨by kernel_rfl, by kernel_rfl⟩ <|
  al ⟨by kernel_rfl, by kernel_rfl⟩ <|
  al ⟨by kernel_rfl, by kernel_rfl⟩ <|
  al ⟨by kernel_rfl, by kernel_rfl⟩ <|
  al ⟨by kernel_rfl, by kernel_rfl⟩ <|
  al ⟨by kernel_rfl, by kernel_rfl⟩ <|
  al ⟨by kernel_rfl, by kernel_rfl⟩ <|
  al ⟨by kernel_rfl, by kernel_rfl⟩ <|
  al ⟨by kernel_rfl, by kernel_rfl⟩ <|
  al ⟨by kernel_rfl, by kernel_rfl⟩ <|
  al ⟨by kernel_rfl, by kernel_rfl⟩ <|
  al ⟨by kernel_rfl, by kernel_rfl⟩ <|
  al ⟨by kernel_rfl, by kernel_rfl⟩ <|
  al ⟨by kernel_rfl, by kernel_rfl⟩ <|
  al ⟨by kernel_rfl, by kernel_rfl⟩ <|
  al ⟨by kernel_rfl, by kernel_rfl⟩ <|
  al ⟨by kernel_rfl, by kernel_rfl⟩ <|
  al ⟨by kernel_rfl, by kernel_rfl⟩ <|
  al ⟨by kernel_rfl, by kernel_rfl⟩ <|
  al ⟨by kernel_rfl, by kernel_rfl⟩ <|
  al ⟨by kernel_rfl, by kernel_rfl⟩ <|
  al ⟨by kernel_rfl, by kernel_rfl⟩ <|
  al ⟨by kernel_rfl, by kernel_rfl⟩ <|
  al ⟨by kernel_rfl, by kernel_rfl⟩ <|
  al ⟨by kernel_rfl, by kernel_rfl⟩ <|
  al ⟨by kernel_rfl, by kernel_rfl⟩ <|
  al ⟨by kernel_rfl, by kernel_rfl⟩ <|
  al ⟨by kernel_rfl, by kernel_rfl⟩ <|
  al ⟨by kernel_rfl, by kernel_rfl⟩ <|
  al ⟨by kernel_rfl, by kernel_rfl⟩ <|
  al ⟨by kernel_rfl, by kernel_rfl⟩ <|
  al ⟨by kernel_rfl, by kernel_rfl⟩ <|
  al ⟨by kernel_rfl, by kernel_rfl⟩ <|
  al ⟨by kernel_rfl, by kernel_rfl⟩ <|
  al ⟨by kernel_rfl, by kernel_rfl⟩ <|
  al ⟨by kernel_rfl, by kernel_rfl⟩ <|
  al ⟨by kernel_rfl, by kernel_rfl⟩ <|
  al ⟨by kernel_rfl, by kernel_rfl⟩ <|
  al ⟨by kernel_rfl, by kernel_rfl⟩ <|
  al ⟨by kernel_rfl, by kernel_rfl⟩ <|
  al ⟨by kernel_rfl, by kernel_rfl⟩ <|
  al ⟨by kernel_rfl, by kernel_rfl⟩ <|
  al ⟨by kernel_rfl, by kernel_rfl⟩ <|
  al ⟨by kernel_rfl, by kernel_rfl⟩ <|
  al ⟨by kernel_rfl, by kernel_rfl⟩ <|
  al ⟨by kernel_rfl, by kernel_rfl⟩ <|
  al ⟨by kernel_rfl, by kernel_rfl⟩ <|
  al ⟨by kernel_rfl, by kernel_rfl⟩ <|
  al ⟨by kernel_rfl, by kernel_rfl⟩ <|
  al ⟨by kernel_rfl, by kernel_rfl⟩ <|
  al ⟨by kernel_rfl, by kernel_rfl⟩ <|
  al ⟨by kernel_rfl, by kernel_rfl⟩ <|
  al ⟨by kernel_rfl, by kernel_rfl⟩ <|
  al ⟨by kernel_rfl, by kernel_rfl⟩ <|
  al ⟨by kernel_rfl, by kernel_rfl⟩ <|
  al ⟨by kernel_rfl, by kernel_rfl⟩ <|
  al ⟨by kernel_rfl, by kernel_rfl⟩ <|
  al ⟨by kernel_rfl, by kernel_rfl⟩ <|
  al ⟨by kernel_rfl, by kernel_rfl⟩ <|
  al ⟨by kernel_rfl, by kernel_rfl⟩ <|
  al ⟨by kernel_rfl, by kernel_rfl⟩ <|
  al ⟨by kernel_rfl, by kernel_rfl⟩ <|
  nl
def sg : Sig Try.prog := ⟨tab, tab_ok⟩
theorem ent2 : Ent Try.prog 2 := Ent.mk Try.func2 (by kernel_rfl) (by kernel_rfl)
theorem ent3 : Ent Try.prog 3 := Ent.mk Try.func3 (by kernel_rfl) (by kernel_rfl)
theorem ent4 : Ent Try.prog 4 := Ent.mk Try.func4 (by kernel_rfl) (by kernel_rfl)
theorem ent5 : Ent Try.prog 5 := Ent.mk Try.func5 (by kernel_rfl) (by kernel_rfl)
theorem ent6 : Ent Try.prog 6 := Ent.mk Try.func6 (by kernel_rfl) (by kernel_rfl)
theorem ent7 : Ent Try.prog 7 := Ent.mk Try.func7 (by kernel_rfl) (by kernel_rfl)
theorem ent8 : Ent Try.prog 8 := Ent.mk Try.func8 (by kernel_rfl) (by kernel_rfl)
theorem ent9 : Ent Try.prog 9 := Ent.mk Try.func9 (by kernel_rfl) (by kernel_rfl)
theorem ent10 : Ent Try.prog 10 := Ent.mk Try.func10 (by kernel_rfl) (by kernel_rfl)
theorem ent11 : Ent Try.prog 11 := Ent.mk Try.func11 (by kernel_rfl) (by kernel_rfl)
theorem ent12 : Ent Try.prog 12 := Ent.mk Try.func12 (by kernel_rfl) (by kernel_rfl)
theorem ent13 : Ent Try.prog 13 := Ent.mk Try.func13 (by kernel_rfl) (by kernel_rfl)
theorem ent14 : Ent Try.prog 14 := Ent.mk Try.func14 (by kernel_rfl) (by kernel_rfl)
theorem ent15 : Ent Try.prog 15 := Ent.mk Try.func15 (by kernel_rfl) (by kernel_rfl)
theorem ent16 : Ent Try.prog 16 := Ent.mk Try.func16 (by kernel_rfl) (by kernel_rfl)
theorem ent17 : Ent Try.prog 17 := Ent.mk Try.func17 (by kernel_rfl) (by kernel_rfl)
theorem ent18 : Ent Try.prog 18 := Ent.mk Try.func18 (by kernel_rfl) (by kernel_rfl)
theorem ent19 : Ent Try.prog 19 := Ent.mk Try.func19 (by kernel_rfl) (by kernel_rfl)
theorem ent20 : Ent Try.prog 20 := Ent.mk Try.func20 (by kernel_rfl) (by kernel_rfl)
theorem ent21 : Ent Try.prog 21 := Ent.mk Try.func21 (by kernel_rfl) (by kernel_rfl)
theorem ent22 : Ent Try.prog 22 := Ent.mk Try.func22 (by kernel_rfl) (by kernel_rfl)
theorem ent23 : Ent Try.prog 23 := Ent.mk Try.func23 (by kernel_rfl) (by kernel_rfl)
theorem ent24 : Ent Try.prog 24 := Ent.mk Try.func24 (by kernel_rfl) (by kernel_rfl)
theorem ent25 : Ent Try.prog 25 := Ent.mk Try.func25 (by kernel_rfl) (by kernel_rfl)
theorem ent26 : Ent Try.prog 26 := Ent.mk Try.func26 (by kernel_rfl) (by kernel_rfl)
theorem ent27 : Ent Try.prog 27 := Ent.mk Try.func27 (by kernel_rfl) (by kernel_rfl)
theorem ent28 : Ent Try.prog 28 := Ent.mk Try.func28 (by kernel_rfl) (by kernel_rfl)
theorem ent29 : Ent Try.prog 29 := Ent.mk Try.func29 (by kernel_rfl) (by kernel_rfl)
theorem ent30 : Ent Try.prog 30 := Ent.mk Try.func30 (by kernel_rfl) (by kernel_rfl)
theorem ent31 : Ent Try.prog 31 := Ent.mk Try.func31 (by kernel_rfl) (by kernel_rfl)
theorem ent32 : Ent Try.prog 32 := Ent.mk Try.func32 (by kernel_rfl) (by kernel_rfl)
theorem ent33 : Ent Try.prog 33 := Ent.mk Try.func33 (by kernel_rfl) (by kernel_rfl)
theorem ent34 : Ent Try.prog 34 := Ent.mk Try.func34 (by kernel_rfl) (by kernel_rfl)
theorem ent35 : Ent Try.prog 35 := Ent.mk Try.func35 (by kernel_rfl) (by kernel_rfl)
theorem ent36 : Ent Try.prog 36 := Ent.mk Try.func36 (by kernel_rfl) (by kernel_rfl)
theorem ent37 : Ent Try.prog 37 := Ent.mk Try.func37 (by kernel_rfl) (by kernel_rfl)
theorem ent38 : Ent Try.prog 38 := Ent.mk Try.func38 (by kernel_rfl) (by kernel_rfl)
theorem ent39 : Ent Try.prog 39 := Ent.mk Try.func39 (by kernel_rfl) (by kernel_rfl)
theorem ent40 : Ent Try.prog 40 := Ent.mk Try.func40 (by kernel_rfl) (by kernel_rfl)
theorem ent41 : Ent Try.prog 41 := Ent.mk Try.func41 (by kernel_rfl) (by kernel_rfl)
theorem ent42 : Ent Try.prog 42 := Ent.mk Try.func42 (by kernel_rfl) (by kernel_rfl)
theorem ent43 : Ent Try.prog 43 := Ent.mk Try.func43 (by kernel_rfl) (by kernel_rfl)
theorem ent44 : Ent Try.prog 44 := Ent.mk Try.func44 (by kernel_rfl) (by kernel_rfl)
theorem ent45 : Ent Try.prog 45 := Ent.mk Try.func45 (by kernel_rfl) (by kernel_rfl)
theorem ent46 : Ent Try.prog 46 := Ent.mk Try.func46 (by kernel_rfl) (by kernel_rfl)
theorem ent47 : Ent Try.prog 47 := Ent.mk Try.func47 (by kernel_rfl) (by kernel_rfl)
theorem ent48 : Ent Try.prog 48 := Ent.mk Try.func48 (by kernel_rfl) (by kernel_rfl)
theorem ent49 : Ent Try.prog 49 := Ent.mk Try.func49 (by kernel_rfl) (by kernel_rfl)
theorem ent50 : Ent Try.prog 50 := Ent.mk Try.func50 (by kernel_rfl) (by kernel_rfl)
theorem ent51 : Ent Try.prog 51 := Ent.mk Try.func51 (by kernel_rfl) (by kernel_rfl)
theorem ent52 : Ent Try.prog 52 := Ent.mk Try.func52 (by kernel_rfl) (by kernel_rfl)
theorem ent53 : Ent Try.prog 53 := Ent.mk Try.func53 (by kernel_rfl) (by kernel_rfl)
theorem ent54 : Ent Try.prog 54 := Ent.mk Try.func54 (by kernel_rfl) (by kernel_rfl)
theorem ent55 : Ent Try.prog 55 := Ent.mk Try.func55 (by kernel_rfl) (by kernel_rfl)
theorem ent56 : Ent Try.prog 56 := Ent.mk Try.func56 (by kernel_rfl) (by kernel_rfl)
theorem ent57 : Ent Try.prog 57 := Ent.mk Try.func57 (by kernel_rfl) (by kernel_rfl)
theorem ent58 : Ent Try.prog 58 := Ent.mk Try.func58 (by kernel_rfl) (by kernel_rfl)
theorem ent59 : Ent Try.prog 59 := Ent.mk Try.func59 (by kernel_rfl) (by kernel_rfl)
theorem ent60 : Ent Try.prog 60 := Ent.mk Try.func60 (by kernel_rfl) (by kernel_rfl)
theorem ent61 : Ent Try.prog 61 := Ent.mk Try.func61 (by kernel_rfl) (by kernel_rfl)
theorem ent62 : Ent Try.prog 62 := Ent.mk Try.func62 (by kernel_rfl) (by kernel_rfl)
theorem ent63 : Ent Try.prog 63 := Ent.mk Try.func63 (by kernel_rfl) (by kernel_rfl)
theorem ent64 : Ent Try.prog 64 := Ent.mk Try.func64 (by kernel_rfl) (by kernel_rfl)
theorem ent65 : Ent Try.prog 65 := Ent.mk Try.func65 (by kernel_rfl) (by kernel_rfl)
theorem ent66 : Ent Try.prog 66 := Ent.mk Try.func66 (by kernel_rfl) (by kernel_rfl)
theorem ent67 : Ent Try.prog 67 := Ent.mk Try.func67 (by kernel_rfl) (by kernel_rfl)
theorem ent68 : Ent Try.prog 68 := Ent.mk Try.func68 (by kernel_rfl) (by kernel_rfl)
theorem ent85 : Ent Try.prog 85 := Ent.mk Try.func85 (by kernel_rfl) (by kernel_rfl)
theorem ent86 : Ent Try.prog 86 := Ent.mk Try.func86 (by kernel_rfl) (by kernel_rfl)
theorem ent87 : Ent Try.prog 87 := Ent.mk Try.func87 (by kernel_rfl) (by kernel_rfl)
theorem ent88 : Ent Try.prog 88 := Ent.mk Try.func88 (by kernel_rfl) (by kernel_rfl)
theorem ent89 : Ent Try.prog 89 := Ent.mk Try.func89 (by kernel_rfl) (by kernel_rfl)
theorem ent90 : Ent Try.prog 90 := Ent.mk Try.func90 (by kernel_rfl) (by kernel_rfl)
theorem ent91 : Ent Try.prog 91 := Ent.mk Try.func91 (by kernel_rfl) (by kernel_rfl)
theorem ent92 : Ent Try.prog 92 := Ent.mk Try.func92 (by kernel_rfl) (by kernel_rfl)
theorem ent93 : Ent Try.prog 93 := Ent.mk Try.func93 (by kernel_rfl) (by kernel_rfl)
theorem ent94 : Ent Try.prog 94 := Ent.mk Try.func94 (by kernel_rfl) (by kernel_rfl)
theorem ent95 : Ent Try.prog 95 := Ent.mk Try.func95 (by kernel_rfl) (by kernel_rfl)
theorem ent96 : Ent Try.prog 96 := Ent.mk Try.func96 (by kernel_rfl) (by kernel_rfl)
theorem ent97 : Ent Try.prog 97 := Ent.mk Try.func97 (by kernel_rfl) (by kernel_rfl)
theorem mixed : Try.prog.follows .mixedOrders = true := by kernel_rfl
end Go.Proofs.Ytkcoemikglbomaa
