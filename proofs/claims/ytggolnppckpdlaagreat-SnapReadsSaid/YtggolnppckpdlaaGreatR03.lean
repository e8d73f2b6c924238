/- Texts of ours, joined: the steps of the proof, or the claim's theorem. -/
import Derived.KernelRfl
import Derived.Laws.MakeOwn
import Derived.Test.YtggolnppckpdlaaGreatProg
import Derived.Test.YtggolnppckpdlaaGreatR02
namespace Go.Proofs.YtggolnppckpdlaaGreat
open Go Go.Sk Go.RowKit
set_option maxRecDepth 100000 in
def tab : Tab := (.node (.node (.node (.node (.node (.node .nil 2 ⟨.int .i64, 1, [.int .i64 (0)], 8⟩
 .nil) 3 ⟨.int .i64, 1, [.int .i64 (0)], 8⟩
 (.node .nil 4 ⟨.bool, 1, [.bool false], 1⟩
 .nil)) 5 ⟨.int .u8, 1, [.int .u8 (0)], 1⟩
 (.node (.node .nil 9 ⟨.string, 1, [.string ⟨#[]⟩], 16⟩
 .nil) 23 ⟨.slice 70, 1, [.slice none 0 0], 24⟩
 (.node .nil 24 ⟨.slice 72, 1, [.slice none 0 0], 24⟩
 .nil))) 25 ⟨.slice 74, 1, [.slice none 0 0], 24⟩
 (.node (.node (.node .nil 26 ⟨.slice 76, 1, [.slice none 0 0], 24⟩
 .nil) 27 ⟨.slice 81, 1, [.slice none 0 0], 24⟩
 (.node .nil 29 ⟨.struct #[⟨ "Clock", 2, 0, false, "", "", 0⟩, ⟨ "Fee", 2, 1, false, "", "", 8⟩, ⟨ "NextOrder", 2, 2, false, "", "", 16⟩, ⟨ "NextAuction", 2, 3, false, "", "", 24⟩, ⟨ "Accounts", 23, 4, false, "", "", 32⟩, ⟨ "Insts", 24, 5, false, "", "", 56⟩, ⟨ "Rows", 25, 6, false, "", "", 80⟩, ⟨ "Orders", 26, 7, false, "", "", 104⟩, ⟨ "Auctions", 27, 8, false, "", "", 128⟩], 9, [.int .i64 (0), .int .i64 (0), .int .i64 (0), .int .i64 (0), .slice none 0 0, .slice none 0 0, .slice none 0 0, .slice none 0 0, .slice none 0 0], 152⟩
 .nil)) 30 ⟨.slice 83, 1, [.slice none 0 0], 24⟩
 (.node (.node .nil 31 ⟨.slice 85, 1, [.slice none 0 0], 24⟩
 .nil) 32 ⟨.slice 87, 1, [.slice none 0 0], 24⟩
 .nil))) 33 ⟨.slice 52, 1, [.slice none 0 0], 24⟩
 (.node (.node (.node (.node .nil 35 ⟨.struct #[⟨ "Open", 30, 0, false, "", "", 0⟩, ⟨ "Lots", 31, 1, false, "", "", 24⟩, ⟨ "Positions", 32, 2, false, "", "", 48⟩, ⟨ "Lines", 33, 3, false, "", "", 72⟩], 4, [.slice none 0 0, .slice none 0 0, .slice none 0 0, .slice none 0 0], 96⟩
 .nil) 38 ⟨.int .i64, 1, [.int .i64 (0)], 8⟩
 (.node .nil 47 ⟨.slice 5, 1, [.slice none 0 0], 24⟩
 .nil)) 52 ⟨.struct #[⟨ "Acct", 3, 0, false, "", "", 0⟩, ⟨ "Seq", 2, 1, false, "", "", 8⟩, ⟨ "Kind", 5, 2, false, "", "", 16⟩, ⟨ "Delta", 2, 3, false, "", "", 24⟩, ⟨ "Balance", 2, 4, false, "", "", 32⟩], 5, [.int .i64 (0), .int .i64 (0), .int .u8 (0), .int .i64 (0), .int .i64 (0)], 40⟩
 (.node (.node .nil 62 ⟨.func #[29] #[4] false, 1, [.nilFunc], 8⟩
 .nil) 65 ⟨.int .u32, 1, [.int .u32 (0)], 4⟩
 (.node .nil 66 ⟨.int .u64, 1, [.int .u64 (0)], 8⟩
 .nil))) 70 ⟨.struct #[⟨ "Name", 9, 0, false, "", "", 0⟩, ⟨ "Open", 4, 1, false, "", "", 16⟩], 2, [.string ⟨#[]⟩, .bool false], 24⟩
 (.node (.node (.node .nil 72 ⟨.struct #[⟨ "Name", 9, 0, false, "", "", 0⟩, ⟨ "Tick", 2, 1, false, "", "", 16⟩, ⟨ "Halted", 4, 2, false, "", "", 24⟩], 3, [.string ⟨#[]⟩, .int .i64 (0), .bool false], 32⟩
 .nil) 74 ⟨.struct #[⟨ "Acct", 3, 0, false, "", "", 0⟩, ⟨ "Asset", 3, 1, false, "", "", 8⟩, ⟨ "Free", 2, 2, false, "", "", 16⟩, ⟨ "Held", 2, 3, false, "", "", 24⟩], 4, [.int .i64 (0), .int .i64 (0), .int .i64 (0), .int .i64 (0)], 32⟩
 (.node .nil 76 ⟨.struct #[⟨ "ID", 2, 0, false, "", "", 0⟩, ⟨ "Acct", 3, 1, false, "", "", 8⟩, ⟨ "Inst", 3, 2, false, "", "", 16⟩, ⟨ "Side", 5, 3, false, "", "", 24⟩, ⟨ "Price", 2, 4, false, "", "", 32⟩, ⟨ "Left", 2, 5, false, "", "", 40⟩], 6, [.int .i64 (0), .int .i64 (0), .int .i64 (0), .int .u8 (0), .int .i64 (0), .int .i64 (0)], 48⟩
 .nil)) 78 ⟨.struct #[⟨ "Acct", 3, 0, false, "", "", 0⟩, ⟨ "Amount", 2, 1, false, "", "", 8⟩], 2, [.int .i64 (0), .int .i64 (0)], 16⟩
 (.node (.node .nil 79 ⟨.slice 78, 1, [.slice none 0 0], 24⟩
 .nil) 81 ⟨.struct #[⟨ "ID", 2, 0, false, "", "", 0⟩, ⟨ "Seller", 3, 1, false, "", "", 8⟩, ⟨ "Inst", 3, 2, false, "", "", 16⟩, ⟨ "Sealed", 4, 3, false, "", "", 24⟩, ⟨ "Qty", 2, 4, false, "", "", 32⟩, ⟨ "Reserve", 2, 5, false, "", "", 40⟩, ⟨ "Step", 2, 6, false, "", "", 48⟩, ⟨ "End", 2, 7, false, "", "", 56⟩, ⟨ "Bids", 79, 8, false, "", "", 64⟩], 9, [.int .i64 (0), .int .i64 (0), .int .i64 (0), .bool false, .int .i64 (0), .int .i64 (0), .int .i64 (0), .int .i64 (0), .slice none 0 0], 88⟩
 .nil)))) 83 ⟨.struct #[⟨ "Acct", 3, 0, false, "", "", 0⟩, ⟨ "ID", 2, 1, false, "", "", 8⟩, ⟨ "Inst", 3, 2, false, "", "", 16⟩, ⟨ "Side", 5, 3, false, "", "", 24⟩, ⟨ "Price", 2, 4, false, "", "", 32⟩, ⟨ "Left", 2, 5, false, "", "", 40⟩], 6, [.int .i64 (0), .int .i64 (0), .int .i64 (0), .int .u8 (0), .int .i64 (0), .int .i64 (0)], 48⟩
 (.node (.node (.node (.node (.node .nil 85 ⟨.struct #[⟨ "ID", 2, 0, false, "", "", 0⟩, ⟨ "Seller", 3, 1, false, "", "", 8⟩, ⟨ "Inst", 3, 2, false, "", "", 16⟩, ⟨ "Qty", 2, 3, false, "", "", 24⟩], 4, [.int .i64 (0), .int .i64 (0), .int .i64 (0), .int .i64 (0)], 32⟩
 .nil) 87 ⟨.struct #[⟨ "Acct", 3, 0, false, "", "", 0⟩, ⟨ "Inst", 3, 1, false, "", "", 8⟩, ⟨ "Bought", 2, 2, false, "", "", 16⟩, ⟨ "Sold", 2, 3, false, "", "", 24⟩, ⟨ "Spent", 2, 4, false, "", "", 32⟩, ⟨ "Got", 2, 5, false, "", "", 40⟩], 6, [.int .i64 (0), .int .i64 (0), .int .i64 (0), .int .i64 (0), .int .i64 (0), .int .i64 (0)], 48⟩
 (.node .nil 88 ⟨.pointer 90, 1, [.pointer none], 8⟩
 .nil)) 90 ⟨.struct #[⟨ "b", 47, 0, false, "", "souk/wire", 0⟩], 1, [.slice none 0 0], 24⟩
 (.node (.node .nil 97 ⟨.int .u64, 1, [.int .u64 (0)], 8⟩
 .nil) 102 ⟨.pointer 166, 1, [.pointer none], 8⟩
 (.node .nil 119 ⟨.pointer 121, 1, [.pointer none], 8⟩
 .nil))) 121 ⟨.struct #[⟨ "Reader", 102, 0, true, "", "", 0⟩, ⟨ "size", 3, 1, false, "", "souk/snap", 8⟩, ⟨ "wrong", 4, 2, false, "", "souk/snap", 16⟩], 3, [.pointer none, .int .i64 (0), .bool false], 24⟩
 (.node (.node (.node .nil 128 ⟨.pointer 130, 1, [.pointer none], 8⟩
 .nil) 130 ⟨.struct #[⟨ "S", 9, 0, false, "", "", 0⟩, ⟨ "At", 3, 1, false, "", "", 16⟩, ⟨ "E", 38, 2, false, "", "", 24⟩, ⟨ "To", 3, 3, false, "", "", 32⟩], 4, [.string ⟨#[]⟩, .int .i64 (0), .int .i64 (0), .int .i64 (0)], 40⟩
 (.node .nil 132 ⟨.struct #[⟨ "r", 128, 0, false, "", "souk/soukref26", 0⟩, ⟨ "ok", 4, 1, false, "", "souk/soukref26", 8⟩], 2, [.pointer none, .bool false], 16⟩
 .nil)) 166 ⟨.struct #[⟨ "s", 9, 0, false, "", "souk/wire", 0⟩, ⟨ "at", 3, 1, false, "", "souk/wire", 16⟩, ⟨ "e", 38, 2, false, "", "souk/wire", 24⟩, ⟨ "to", 3, 3, false, "", "souk/wire", 32⟩], 4, [.string ⟨#[]⟩, .int .i64 (0), .int .i64 (0), .int .i64 (0)], 40⟩
 (.node (.node .nil 201 ⟨.slice 204, 1, [.slice none 0 0], 24⟩
 .nil) 204 ⟨.struct #[⟨ "word", 9, 0, false, "", "souk/state", 0⟩, ⟨ "ok", 62, 1, false, "", "souk/state", 16⟩], 2, [.string ⟨#[]⟩, .nilFunc], 24⟩
 .nil))) 209 ⟨.slice 2, 1, [.slice none 0 0], 24⟩
 (.node (.node (.node (.node .nil 217 ⟨.map 3 2, 1, [.map none], 8⟩
 .nil) 248 ⟨.array 256 65, 256, [.int .u32 (0), .int .u32 (0), .int .u32 (0), .int .u32 (0), .int .u32 (0), .int .u32 (0), .int .u32 (0), .int .u32 (0), .int .u32 (0), .int .u32 (0), .int .u32 (0), .int .u32 (0), .int .u32 (0), .int .u32 (0), .int .u32 (0), .int .u32 (0), .int .u32 (0), .int .u32 (0), .int .u32 (0), .int .u32 (0), .int .u32 (0), .int .u32 (0), .int .u32 (0), .int .u32 (0), .int .u32 (0), .int .u32 (0), .int .u32 (0), .int .u32 (0), .int .u32 (0), .int .u32 (0), .int .u32 (0), .int .u32 (0), .int .u32 (0), .int .u32 (0), .int .u32 (0), .int .u32 (0), .int .u32 (0), .int .u32 (0), .int .u32 (0), .int .u32 (0), .int .u32 (0), .int .u32 (0), .int .u32 (0), .int .u32 (0), .int .u32 (0), .int .u32 (0), .int .u32 (0), .int .u32 (0), .int .u32 (0), .int .u32 (0), .int .u32 (0), .int .u32 (0), .int .u32 (0), .int .u32 (0), .int .u32 (0), .int .u32 (0), .int .u32 (0), .int .u32 (0), .int .u32 (0), .int .u32 (0), .int .u32 (0), .int .u32 (0), .int .u32 (0), .int .u32 (0), .int .u32 (0), .int .u32 (0), .int .u32 (0), .int .u32 (0), .int .u32 (0), .int .u32 (0), .int .u32 (0), .int .u32 (0), .int .u32 (0), .int .u32 (0), .int .u32 (0), .int .u32 (0), .int .u32 (0), .int .u32 (0), .int .u32 (0), .int .u32 (0), .int .u32 (0), .int .u32 (0), .int .u32 (0), .int .u32 (0), .int .u32 (0), .int .u32 (0), .int .u32 (0), .int .u32 (0), .int .u32 (0), .int .u32 (0), .int .u32 (0), .int .u32 (0), .int .u32 (0), .int .u32 (0), .int .u32 (0), .int .u32 (0), .int .u32 (0), .int .u32 (0), .int .u32 (0), .int .u32 (0), .int .u32 (0), .int .u32 (0), .int .u32 (0), .int .u32 (0), .int .u32 (0), .int .u32 (0), .int .u32 (0), .int .u32 (0), .int .u32 (0), .int .u32 (0), .int .u32 (0), .int .u32 (0), .int .u32 (0), .int .u32 (0), .int .u32 (0), .int .u32 (0), .int .u32 (0), .int .u32 (0), .int .u32 (0), .int .u32 (0), .int .u32 (0), .int .u32 (0), .int .u32 (0), .int .u32 (0), .int .u32 (0), .int .u32 (0), .int .u32 (0), .int .u32 (0), .int .u32 (0), .int .u32 (0), .int .u32 (0), .int .u32 (0), .int .u32 (0), .int .u32 (0), .int .u32 (0), .int .u32 (0), .int .u32 (0), .int .u32 (0), .int .u32 (0), .int .u32 (0), .int .u32 (0), .int .u32 (0), .int .u32 (0), .int .u32 (0), .int .u32 (0), .int .u32 (0), .int .u32 (0), .int .u32 (0), .int .u32 (0), .int .u32 (0), .int .u32 (0), .int .u32 (0), .int .u32 (0), .int .u32 (0), .int .u32 (0), .int .u32 (0), .int .u32 (0), .int .u32 (0), .int .u32 (0), .int .u32 (0), .int .u32 (0), .int .u32 (0), .int .u32 (0), .int .u32 (0), .int .u32 (0), .int .u32 (0), .int .u32 (0), .int .u32 (0), .int .u32 (0), .int .u32 (0), .int .u32 (0), .int .u32 (0), .int .u32 (0), .int .u32 (0), .int .u32 (0), .int .u32 (0), .int .u32 (0), .int .u32 (0), .int .u32 (0), .int .u32 (0), .int .u32 (0), .int .u32 (0), .int .u32 (0), .int .u32 (0), .int .u32 (0), .int .u32 (0), .int .u32 (0), .int .u32 (0), .int .u32 (0), .int .u32 (0), .int .u32 (0), .int .u32 (0), .int .u32 (0), .int .u32 (0), .int .u32 (0), .int .u32 (0), .int .u32 (0), .int .u32 (0), .int .u32 (0), .int .u32 (0), .int .u32 (0), .int .u32 (0), .int .u32 (0), .int .u32 (0), .int .u32 (0), .int .u32 (0), .int .u32 (0), .int .u32 (0), .int .u32 (0), .int .u32 (0), .int .u32 (0), .int .u32 (0), .int .u32 (0), .int .u32 (0), .int .u32 (0), .int .u32 (0), .int .u32 (0), .int .u32 (0), .int .u32 (0), .int .u32 (0), .int .u32 (0), .int .u32 (0), .int .u32 (0), .int .u32 (0), .int .u32 (0), .int .u32 (0), .int .u32 (0), .int .u32 (0), .int .u32 (0), .int .u32 (0), .int .u32 (0), .int .u32 (0), .int .u32 (0), .int .u32 (0), .int .u32 (0), .int .u32 (0), .int .u32 (0), .int .u32 (0), .int .u32 (0), .int .u32 (0), .int .u32 (0), .int .u32 (0), .int .u32 (0), .int .u32 (0), .int .u32 (0), .int .u32 (0), .int .u32 (0), .int .u32 (0), .int .u32 (0), .int .u32 (0), .int .u32 (0), .int .u32 (0), .int .u32 (0), .int .u32 (0), .int .u32 (0), .int .u32 (0)], 1024⟩
 (.node .nil 256 ⟨.slice 9, 1, [.slice none 0 0], 24⟩
 .nil)) 265 ⟨.map 270 2, 1, [.map none], 8⟩
 (.node (.node .nil 270 ⟨.struct #[⟨ "acct", 3, 0, false, "", "souk/state", 0⟩, ⟨ "asset", 3, 1, false, "", "souk/state", 8⟩], 2, [.int .i64 (0), .int .i64 (0)], 16⟩
 .nil) 271 ⟨.slice 3, 1, [.slice none 0 0], 24⟩
 (.node .nil 274 ⟨.int .i64, 1, [.int .i64 (0)], 8⟩
 .nil))) 284 ⟨.struct #[⟨ "high", 2, 0, false, "", "souk/money", 0⟩, ⟨ "low", 97, 1, false, "", "souk/money", 8⟩], 2, [.int .i64 (0), .int .u64 (0)], 16⟩
 (.node (.node (.node .nil 293 ⟨.struct #[⟨ "acct", 3, 0, false, "", "souk/ledger", 0⟩, ⟨ "asset", 3, 1, false, "", "souk/ledger", 8⟩], 2, [.int .i64 (0), .int .i64 (0)], 16⟩
 .nil) 294 ⟨.array 17 2, 17, [.int .i64 (0), .int .i64 (0), .int .i64 (0), .int .i64 (0), .int .i64 (0), .int .i64 (0), .int .i64 (0), .int .i64 (0), .int .i64 (0), .int .i64 (0), .int .i64 (0), .int .i64 (0), .int .i64 (0), .int .i64 (0), .int .i64 (0), .int .i64 (0), .int .i64 (0)], 136⟩
 (.node .nil 296 ⟨.struct #[⟨ "place", 293, 0, true, "", "souk/ledger", 0⟩, ⟨ "free", 2, 2, false, "", "souk/ledger", 16⟩, ⟨ "held", 2, 3, false, "", "souk/ledger", 24⟩], 4, [.int .i64 (0), .int .i64 (0), .int .i64 (0), .int .i64 (0)], 32⟩
 .nil)) 304 ⟨.int .u64, 1, [.int .u64 (0)], 8⟩
 (.node (.node .nil 326 ⟨.struct #[], 0, [], 0⟩
 .nil) 327 ⟨.struct #[], 0, [], 0⟩
 .nil)))))
set_option maxRecDepth 100000 in
theorem tab_ok : tab.All fun p => Tryz.prog.underlying p.1 = some p.2.d ∧ (Tryz.prog.info? p.1).map (fun i => (i.size, i.zero.map Value.cells, i.bytes)) = some (p.2.size, some p.2.zero.toArray, p.2.bytes) :=
 by repeat' (first | exact trivial | apply And.intro | kernel_rfl)
def sg : Sig Tryz.prog := ⟨tab, tab_ok⟩
theorem em {f : FuncId} {fn : Func} (hf : Tryz.prog.funcs[f]? = some fn) (h1 : (fn.name == "runtime.NumGoroutine") = false := by kernel_rfl) (h2 : fn.body.isNone = false := by kernel_rfl) : Ent Tryz.prog f := Ent.mk hf h1 h2
theorem ent8 : Ent Tryz.prog 8 := em Tryz.func8
theorem zKn : Ent Tryz.prog 10 := em Tryz.func10
theorem ent11 : Ent Tryz.prog 11 := em Tryz.func11
theorem ent12 : Ent Tryz.prog 12 := em Tryz.func12
theorem zMm : Ent Tryz.prog 13 := em Tryz.func13
theorem zMn : Ent Tryz.prog 14 := em Tryz.func14
theorem ent15 : Ent Tryz.prog 15 := em Tryz.func15
theorem zKo : Ent Tryz.prog 16 := em Tryz.func16
theorem ent18 : Ent Tryz.prog 18 := em Tryz.func18
theorem ent19 : Ent Tryz.prog 19 := em Tryz.func19
theorem ent26 : Ent Tryz.prog 26 := em Tryz.func26
theorem ent27 : Ent Tryz.prog 27 := em Tryz.func27
theorem ent28 : Ent Tryz.prog 28 := em Tryz.func28
theorem ent29 : Ent Tryz.prog 29 := em Tryz.func29
theorem ent30 : Ent Tryz.prog 30 := em Tryz.func30
theorem ent31 : Ent Tryz.prog 31 := em Tryz.func31
theorem zKp : Ent Tryz.prog 32 := em Tryz.func32
theorem zKq : Ent Tryz.prog 33 := em Tryz.func33
theorem ent34 : Ent Tryz.prog 34 := em Tryz.func34
theorem ent35 : Ent Tryz.prog 35 := em Tryz.func35
theorem ent36 : Ent Tryz.prog 36 := em Tryz.func36
theorem ent37 : Ent Tryz.prog 37 := em Tryz.func37
theorem zMo : Ent Tryz.prog 38 := em Tryz.func38
theorem zMp : Ent Tryz.prog 39 := em Tryz.func39
theorem ent40 : Ent Tryz.prog 40 := em Tryz.func40
theorem ent41 : Ent Tryz.prog 41 := em Tryz.func41
theorem ent42 : Ent Tryz.prog 42 := em Tryz.func42
theorem zMq : Ent Tryz.prog 43 := em Tryz.func43
theorem ent44 : Ent Tryz.prog 44 := em Tryz.func44
theorem ent45 : Ent Tryz.prog 45 := em Tryz.func45
theorem ent46 : Ent Tryz.prog 46 := em Tryz.func46
theorem ent47 : Ent Tryz.prog 47 := em Tryz.func47
theorem ent48 : Ent Tryz.prog 48 := em Tryz.func48
theorem zDM : Ent Tryz.prog 49 := em Tryz.func49
theorem ent50 : Ent Tryz.prog 50 := em Tryz.func50
theorem ent51 : Ent Tryz.prog 51 := em Tryz.func51
theorem ent52 : Ent Tryz.prog 52 := em Tryz.func52
theorem ent53 : Ent Tryz.prog 53 := em Tryz.func53
theorem ent54 : Ent Tryz.prog 54 := em Tryz.func54
theorem ent55 : Ent Tryz.prog 55 := em Tryz.func55
theorem ent56 : Ent Tryz.prog 56 := em Tryz.func56
theorem ent57 : Ent Tryz.prog 57 := em Tryz.func57
theorem ent58 : Ent Tryz.prog 58 := em Tryz.func58
theorem ent59 : Ent Tryz.prog 59 := em Tryz.func59
theorem ent60 : Ent Tryz.prog 60 := em Tryz.func60
theorem ent61 : Ent Tryz.prog 61 := em Tryz.func61
theorem ent62 : Ent Tryz.prog 62 := em Tryz.func62
theorem ent63 : Ent Tryz.prog 63 := em Tryz.func63
theorem ent64 : Ent Tryz.prog 64 := em Tryz.func64
theorem ent65 : Ent Tryz.prog 65 := em Tryz.func65
theorem ent70 : Ent Tryz.prog 70 := em Tryz.func70
theorem ent71 : Ent Tryz.prog 71 := em Tryz.func71
theorem ent72 : Ent Tryz.prog 72 := em Tryz.func72
theorem ent73 : Ent Tryz.prog 73 := em Tryz.func73
theorem ent74 : Ent Tryz.prog 74 := em Tryz.func74
theorem ent75 : Ent Tryz.prog 75 := em Tryz.func75
theorem ent76 : Ent Tryz.prog 76 := em Tryz.func76
theorem ent77 : Ent Tryz.prog 77 := em Tryz.func77
theorem ent78 : Ent Tryz.prog 78 := em Tryz.func78
theorem zBZ : Ent Tryz.prog 79 := em Tryz.func79
theorem ent80 : Ent Tryz.prog 80 := em Tryz.func80
theorem ent81 : Ent Tryz.prog 81 := em Tryz.func81
theorem zGp : Ent Tryz.prog 82 := em Tryz.func82
theorem ent83 : Ent Tryz.prog 83 := em Tryz.func83
theorem ent84 : Ent Tryz.prog 84 := em Tryz.func84
theorem ent85 : Ent Tryz.prog 85 := em Tryz.func85
theorem ent86 : Ent Tryz.prog 86 := em Tryz.func86
theorem zCc : Ent Tryz.prog 87 := em Tryz.func87
theorem ent88 : Ent Tryz.prog 88 := em Tryz.func88
theorem ent89 : Ent Tryz.prog 89 := em Tryz.func89
theorem ent90 : Ent Tryz.prog 90 := em Tryz.func90
theorem zMr : Ent Tryz.prog 91 := em Tryz.func91
theorem ent92 : Ent Tryz.prog 92 := em Tryz.func92
theorem ent93 : Ent Tryz.prog 93 := em Tryz.func93
theorem ent94 : Ent Tryz.prog 94 := em Tryz.func94
theorem ent95 : Ent Tryz.prog 95 := em Tryz.func95
theorem ent96 : Ent Tryz.prog 96 := em Tryz.func96
theorem ent97 : Ent Tryz.prog 97 := em Tryz.func97
theorem ent98 : Ent Tryz.prog 98 := em Tryz.func98
theorem zFs : Ent Tryz.prog 99 := em Tryz.func99
theorem ent100 : Ent Tryz.prog 100 := em Tryz.func100
theorem ent101 : Ent Tryz.prog 101 := em Tryz.func101
theorem ent102 : Ent Tryz.prog 102 := em Tryz.func102
theorem ent103 : Ent Tryz.prog 103 := em Tryz.func103
theorem ent104 : Ent Tryz.prog 104 := em Tryz.func104
theorem ent105 : Ent Tryz.prog 105 := em Tryz.func105
theorem ent106 : Ent Tryz.prog 106 := em Tryz.func106
theorem ent107 : Ent Tryz.prog 107 := em Tryz.func107
theorem ent108 : Ent Tryz.prog 108 := em Tryz.func108
theorem ent109 : Ent Tryz.prog 109 := em Tryz.func109
theorem ent110 : Ent Tryz.prog 110 := em Tryz.func110
theorem ent111 : Ent Tryz.prog 111 := em Tryz.func111
theorem ent112 : Ent Tryz.prog 112 := em Tryz.func112
theorem zJL : Ent Tryz.prog 113 := em Tryz.func113
theorem ent114 : Ent Tryz.prog 114 := em Tryz.func114
theorem ent115 : Ent Tryz.prog 115 := em Tryz.func115
theorem zBV : Ent Tryz.prog 116 := em Tryz.func116
theorem ent117 : Ent Tryz.prog 117 := em Tryz.func117
theorem ent118 : Ent Tryz.prog 118 := em Tryz.func118
theorem ent119 : Ent Tryz.prog 119 := em Tryz.func119
theorem zCj : Ent Tryz.prog 120 := em Tryz.func120
theorem ent121 : Ent Tryz.prog 121 := em Tryz.func121
theorem ent122 : Ent Tryz.prog 122 := em Tryz.func122
theorem zMs : Ent Tryz.prog 123 := em Tryz.func123
theorem zJM : Ent Tryz.prog 124 := em Tryz.func124
theorem ent125 : Ent Tryz.prog 125 := em Tryz.func125
theorem ent126 : Ent Tryz.prog 126 := em Tryz.func126
theorem ent127 : Ent Tryz.prog 127 := em Tryz.func127
theorem ent128 : Ent Tryz.prog 128 := em Tryz.func128
theorem zAk : Ent Tryz.prog 129 := em Tryz.func129
theorem ent130 : Ent Tryz.prog 130 := em Tryz.func130
theorem ent131 : Ent Tryz.prog 131 := em Tryz.func131
theorem zHS : Ent Tryz.prog 132 := em Tryz.func132
theorem ent133 : Ent Tryz.prog 133 := em Tryz.func133
theorem ent134 : Ent Tryz.prog 134 := em Tryz.func134
theorem ent135 : Ent Tryz.prog 135 := em Tryz.func135
theorem ent136 : Ent Tryz.prog 136 := em Tryz.func136
theorem ent137 : Ent Tryz.prog 137 := em Tryz.func137
theorem ent138 : Ent Tryz.prog 138 := em Tryz.func138
theorem ent139 : Ent Tryz.prog 139 := em Tryz.func139
theorem ent140 : Ent Tryz.prog 140 := em Tryz.func140
theorem ent141 : Ent Tryz.prog 141 := em Tryz.func141
theorem ent142 : Ent Tryz.prog 142 := em Tryz.func142
theorem ent143 : Ent Tryz.prog 143 := em Tryz.func143
theorem ent144 : Ent Tryz.prog 144 := em Tryz.func144
theorem ent145 : Ent Tryz.prog 145 := em Tryz.func145
theorem zFt : Ent Tryz.prog 146 := em Tryz.func146
theorem ent147 : Ent Tryz.prog 147 := em Tryz.func147
theorem ent148 : Ent Tryz.prog 148 := em Tryz.func148
theorem ent149 : Ent Tryz.prog 149 := em Tryz.func149
theorem ent150 : Ent Tryz.prog 150 := em Tryz.func150
theorem ent151 : Ent Tryz.prog 151 := em Tryz.func151
theorem ent152 : Ent Tryz.prog 152 := em Tryz.func152
theorem ent153 : Ent Tryz.prog 153 := em Tryz.func153
theorem ent154 : Ent Tryz.prog 154 := em Tryz.func154
theorem ent155 : Ent Tryz.prog 155 := em Tryz.func155
theorem ent160 : Ent Tryz.prog 160 := em Tryz.func160
theorem ent161 : Ent Tryz.prog 161 := em Tryz.func161
theorem zBg : Ent Tryz.prog 162 := em Tryz.func162
theorem zCk : Ent Tryz.prog 163 := em Tryz.func163
theorem zMt : Ent Tryz.prog 164 := em Tryz.func164
theorem zJN : Ent Tryz.prog 165 := em Tryz.func165
theorem zBw : Ent Tryz.prog 166 := em Tryz.func166
theorem zDQ : Ent Tryz.prog 167 := em Tryz.func167
theorem ent168 : Ent Tryz.prog 168 := em Tryz.func168
theorem ent169 : Ent Tryz.prog 169 := em Tryz.func169
theorem ent170 : Ent Tryz.prog 170 := em Tryz.func170
theorem ent171 : Ent Tryz.prog 171 := em Tryz.func171
theorem ent172 : Ent Tryz.prog 172 := em Tryz.func172
theorem ent173 : Ent Tryz.prog 173 := em Tryz.func173
theorem ent174 : Ent Tryz.prog 174 := em Tryz.func174
theorem ent175 : Ent Tryz.prog 175 := em Tryz.func175
theorem ent176 : Ent Tryz.prog 176 := em Tryz.func176
theorem ent177 : Ent Tryz.prog 177 := em Tryz.func177
theorem ent178 : Ent Tryz.prog 178 := em Tryz.func178
theorem zDR : Ent Tryz.prog 179 := em Tryz.func179
theorem ent180 : Ent Tryz.prog 180 := em Tryz.func180
theorem ent181 : Ent Tryz.prog 181 := em Tryz.func181
theorem ent182 : Ent Tryz.prog 182 := em Tryz.func182
theorem ent183 : Ent Tryz.prog 183 := em Tryz.func183
theorem ent184 : Ent Tryz.prog 184 := em Tryz.func184
theorem ent185 : Ent Tryz.prog 185 := em Tryz.func185
theorem zB8 : Ent Tryz.prog 186 := em Tryz.func186
theorem ent187 : Ent Tryz.prog 187 := em Tryz.func187
theorem zD7 : Ent Tryz.prog 188 := em Tryz.func188
theorem zFu : Ent Tryz.prog 189 := em Tryz.func189
theorem zJO : Ent Tryz.prog 190 := em Tryz.func190
theorem ent191 : Ent Tryz.prog 191 := em Tryz.func191
theorem zMu : Ent Tryz.prog 192 := em Tryz.func192
theorem ent193 : Ent Tryz.prog 193 := em Tryz.func193
theorem ent194 : Ent Tryz.prog 194 := em Tryz.func194
theorem zHT : Ent Tryz.prog 195 := em Tryz.func195
theorem ent196 : Ent Tryz.prog 196 := em Tryz.func196
theorem zMv : Ent Tryz.prog 197 := em Tryz.func197
theorem ent198 : Ent Tryz.prog 198 := em Tryz.func198
theorem ent199 : Ent Tryz.prog 199 := em Tryz.func199
theorem ent200 : Ent Tryz.prog 200 := em Tryz.func200
theorem zBx : Ent Tryz.prog 201 := em Tryz.func201
theorem zMw : Ent Tryz.prog 202 := em Tryz.func202
theorem ent204 : Ent Tryz.prog 204 := em Tryz.func204
theorem zMx : Ent Tryz.prog 205 := em Tryz.func205
theorem ent206 : Ent Tryz.prog 206 := em Tryz.func206
theorem ent207 : Ent Tryz.prog 207 := em Tryz.func207
theorem ent208 : Ent Tryz.prog 208 := em Tryz.func208
theorem ent209 : Ent Tryz.prog 209 := em Tryz.func209
theorem ent210 : Ent Tryz.prog 210 := em Tryz.func210
theorem ent211 : Ent Tryz.prog 211 := em Tryz.func211
theorem ent212 : Ent Tryz.prog 212 := em Tryz.func212
theorem zJP : Ent Tryz.prog 213 := em Tryz.func213
theorem zJQ : Ent Tryz.prog 214 := em Tryz.func214
theorem zJR : Ent Tryz.prog 215 := em Tryz.func215
theorem zMy : Ent Tryz.prog 216 := em Tryz.func216
theorem zMz : Ent Tryz.prog 217 := em Tryz.func217
theorem ent220 : Ent Tryz.prog 220 := em Tryz.func220
theorem zM0 : Ent Tryz.prog 221 := em Tryz.func221
theorem ent222 : Ent Tryz.prog 222 := em Tryz.func222
theorem ent223 : Ent Tryz.prog 223 := em Tryz.func223
theorem ent224 : Ent Tryz.prog 224 := em Tryz.func224
theorem ent225 : Ent Tryz.prog 225 := em Tryz.func225
theorem zM1 : Ent Tryz.prog 226 := em Tryz.func226
theorem zJS : Ent Tryz.prog 227 := em Tryz.func227
theorem zHU : Ent Tryz.prog 228 := em Tryz.func228
theorem ent229 : Ent Tryz.prog 229 := em Tryz.func229
theorem ent230 : Ent Tryz.prog 230 := em Tryz.func230
theorem ent231 : Ent Tryz.prog 231 := em Tryz.func231
theorem zHV : Ent Tryz.prog 232 := em Tryz.func232
theorem zM2 : Ent Tryz.prog 233 := em Tryz.func233
theorem ent234 : Ent Tryz.prog 234 := em Tryz.func234
theorem zHW : Ent Tryz.prog 235 := em Tryz.func235
theorem ent236 : Ent Tryz.prog 236 := em Tryz.func236
theorem ent237 : Ent Tryz.prog 237 := em Tryz.func237
theorem ent238 : Ent Tryz.prog 238 := em Tryz.func238
theorem zM3 : Ent Tryz.prog 239 := em Tryz.func239
theorem ent240 : Ent Tryz.prog 240 := em Tryz.func240
theorem zM4 : Ent Tryz.prog 241 := em Tryz.func241
theorem ent242 : Ent Tryz.prog 242 := em Tryz.func242
theorem ent243 : Ent Tryz.prog 243 := em Tryz.func243
theorem ent244 : Ent Tryz.prog 244 := em Tryz.func244
theorem zM5 : Ent Tryz.prog 245 := em Tryz.func245
theorem ent246 : Ent Tryz.prog 246 := em Tryz.func246
theorem ent247 : Ent Tryz.prog 247 := em Tryz.func247
theorem ent248 : Ent Tryz.prog 248 := em Tryz.func248
theorem zM6 : Ent Tryz.prog 249 := em Tryz.func249
theorem zM7 : Ent Tryz.prog 250 := em Tryz.func250
theorem ent262 : Ent Tryz.prog 262 := em Tryz.func262
theorem ent263 : Ent Tryz.prog 263 := em Tryz.func263
theorem ent264 : Ent Tryz.prog 264 := em Tryz.func264
theorem zM8 : Ent Tryz.prog 265 := em Tryz.func265
theorem ent266 : Ent Tryz.prog 266 := em Tryz.func266
theorem ent267 : Ent Tryz.prog 267 := em Tryz.func267
theorem ent268 : Ent Tryz.prog 268 := em Tryz.func268
theorem ent269 : Ent Tryz.prog 269 := em Tryz.func269
theorem ent270 : Ent Tryz.prog 270 := em Tryz.func270
theorem ent271 : Ent Tryz.prog 271 := em Tryz.func271
theorem ent272 : Ent Tryz.prog 272 := em Tryz.func272
theorem ent273 : Ent Tryz.prog 273 := em Tryz.func273
theorem ent274 : Ent Tryz.prog 274 := em Tryz.func274
theorem ent275 : Ent Tryz.prog 275 := em Tryz.func275
theorem ent276 : Ent Tryz.prog 276 := em Tryz.func276
theorem ent277 : Ent Tryz.prog 277 := em Tryz.func277
theorem ent278 : Ent Tryz.prog 278 := em Tryz.func278
theorem zM9 : Ent Tryz.prog 279 := em Tryz.func279
theorem ent280 : Ent Tryz.prog 280 := em Tryz.func280
theorem ent281 : Ent Tryz.prog 281 := em Tryz.func281
theorem ent282 : Ent Tryz.prog 282 := em Tryz.func282
theorem zNA : Ent Tryz.prog 283 := em Tryz.func283
theorem ent284 : Ent Tryz.prog 284 := em Tryz.func284
theorem ent285 : Ent Tryz.prog 285 := em Tryz.func285
theorem ent286 : Ent Tryz.prog 286 := em Tryz.func286
theorem ent293 : Ent Tryz.prog 293 := em Tryz.func293
theorem ent295 : Ent Tryz.prog 295 := em Tryz.func295
theorem ent296 : Ent Tryz.prog 296 := em Tryz.func296
theorem zHX : Ent Tryz.prog 297 := em Tryz.func297
theorem zJT : Ent Tryz.prog 298 := em Tryz.func298
theorem zNB : Ent Tryz.prog 299 := em Tryz.func299
theorem zNC : Ent Tryz.prog 300 := em Tryz.func300
theorem ent311 : Ent Tryz.prog 311 := em Tryz.func311
theorem ent337 : Ent Tryz.prog 337 := em Tryz.func337
theorem ent341 : Ent Tryz.prog 341 := em Tryz.func341
theorem mixed : Tryz.prog.follows .mixedOrders = true := by kernel_rfl
end Go.Proofs.YtggolnppckpdlaaGreat
namespace Go.Sk
open Go Go.RowKit
section
attribute [local semireducible] OX OW QX QW RA
variable {P : Program} {n : Nw} {ops : Array Oper} {Q : zAX} {o : Oper} {rest : List Oper} {L : List (Nat × Value)} {b0 : Env} {w : World} (S : Sig P)
end
section
variable {P : Program} {n : Nw} {ops : Array Oper} {Q : zAX} {K : Env → World → Prop} {o : Oper} {rest : List Oper} {L : List (Nat × Value)} {b : Env} {w : World} (S : Sig P)
theorem y46 {F : zI} {a : Option Addr} {m b' off : Nat} {cs : List Value} {T : TypeId} {fr : Nat × Nat} {el : Nat → List Value} {d : Nat} {t : TypeId} {x : Operand} {j : Nat} {ti : TI} {v : Value} (hs : SlB F 1 a m b' off cs T fr el) (hM : Mem w F) (hj : j < m)
  (kk : OW P n ops Q rest (ovl ((d, v) :: L) b) w) (hd : o.dst = some d := by exact rfl) (hlt : Nat.blt d n.n = true := by exact rfl) (ho : o.op = .load t x := by exact rfl) (hx : ev (ovl L b) x = .pointer (some ⟨b', off + j * 1, none⟩) := by exact rfl) (ht : lk S.tab t = some ti := by exact rfl) (hag : zBF ti.d = false := by exact rfl) (hv : (match (el j)[0]? with | some v => nf v | none => none) = some v := by exact rfl) : OX P n ops Q o rest (ovl L b) w :=
 zY hd hlt (Yq.loadB1 S hs hM ho hx ht hag hj hv) kk
end
end Go.Sk
