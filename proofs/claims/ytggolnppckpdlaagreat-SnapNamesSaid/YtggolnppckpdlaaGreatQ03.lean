/- Texts of ours, joined: the steps of the proof, or the claim's theorem. -/
import Derived.KernelRfl
import Derived.Laws.MakeOwn
import Derived.Test.YtggolnppckpdlaaGreatProg
import Derived.Test.YtggolnppckpdlaaGreatQ02
namespace Go.Proofs.YtggolnppckpdlaaGreat
open Go Go.Sk Go.RowKit
set_option maxRecDepth 100000 in
def tab : Tab := (.node (.node (.node (.node (.node (.node (.node (.node (.node .nil 0 ⟨.tuple #[], 1, [.tuple #[]], 0⟩
 .nil) 1 ⟨.func #[] #[] false, 1, [.nilFunc], 8⟩
 .nil) 2 ⟨.int .i64, 1, [.int .i64 (0)], 8⟩
 (.node (.node .nil 3 ⟨.int .i64, 1, [.int .i64 (0)], 8⟩
 .nil) 4 ⟨.bool, 1, [.bool false], 1⟩
 .nil)) 5 ⟨.int .u8, 1, [.int .u8 (0)], 1⟩
 (.node (.node (.node .nil 6 ⟨.int .u8, 1, [.int .u8 (0)], 1⟩
 .nil) 9 ⟨.string, 1, [.string ⟨#[]⟩], 16⟩
 .nil) 10 ⟨.string, 1, [.string ⟨#[]⟩], 16⟩
 (.node .nil 11 ⟨.string, 1, [.string ⟨#[]⟩], 16⟩
 .nil))) 12 ⟨.int .u64, 1, [.int .u64 (0)], 8⟩
 (.node (.node (.node (.node .nil 15 ⟨.pointer 332, 1, [.pointer none], 8⟩
 .nil) 16 ⟨.pointer 335, 1, [.pointer none], 8⟩
 .nil) 17 ⟨.pointer 343, 1, [.pointer none], 8⟩
 (.node (.node .nil 20 ⟨.interface #[], 1, [.nilIface], 16⟩
 .nil) 21 ⟨.int .i32, 1, [.int .i32 (0)], 4⟩
 .nil)) 22 ⟨.func #[] #[4] false, 1, [.nilFunc], 8⟩
 (.node (.node (.node .nil 23 ⟨.slice 70, 1, [.slice none 0 0], 24⟩
 .nil) 24 ⟨.slice 72, 1, [.slice none 0 0], 24⟩
 .nil) 25 ⟨.slice 74, 1, [.slice none 0 0], 24⟩
 (.node .nil 26 ⟨.slice 76, 1, [.slice none 0 0], 24⟩
 .nil)))) 27 ⟨.slice 81, 1, [.slice none 0 0], 24⟩
 (.node (.node (.node (.node (.node .nil 28 ⟨.struct #[⟨ "Clock", 2, 0, false, "", "", 0⟩, ⟨ "Fee", 2, 1, false, "", "", 8⟩, ⟨ "NextOrder", 2, 2, false, "", "", 16⟩, ⟨ "NextAuction", 2, 3, false, "", "", 24⟩, ⟨ "Accounts", 23, 4, false, "", "", 32⟩, ⟨ "Insts", 24, 5, false, "", "", 56⟩, ⟨ "Rows", 25, 6, false, "", "", 80⟩, ⟨ "Orders", 26, 7, false, "", "", 104⟩, ⟨ "Auctions", 27, 8, false, "", "", 128⟩], 9, [.int .i64 (0), .int .i64 (0), .int .i64 (0), .int .i64 (0), .slice none 0 0, .slice none 0 0, .slice none 0 0, .slice none 0 0, .slice none 0 0], 152⟩
 .nil) 29 ⟨.struct #[⟨ "Clock", 2, 0, false, "", "", 0⟩, ⟨ "Fee", 2, 1, false, "", "", 8⟩, ⟨ "NextOrder", 2, 2, false, "", "", 16⟩, ⟨ "NextAuction", 2, 3, false, "", "", 24⟩, ⟨ "Accounts", 23, 4, false, "", "", 32⟩, ⟨ "Insts", 24, 5, false, "", "", 56⟩, ⟨ "Rows", 25, 6, false, "", "", 80⟩, ⟨ "Orders", 26, 7, false, "", "", 104⟩, ⟨ "Auctions", 27, 8, false, "", "", 128⟩], 9, [.int .i64 (0), .int .i64 (0), .int .i64 (0), .int .i64 (0), .slice none 0 0, .slice none 0 0, .slice none 0 0, .slice none 0 0, .slice none 0 0], 152⟩
 .nil) 30 ⟨.slice 83, 1, [.slice none 0 0], 24⟩
 (.node (.node .nil 31 ⟨.slice 85, 1, [.slice none 0 0], 24⟩
 .nil) 32 ⟨.slice 87, 1, [.slice none 0 0], 24⟩
 .nil)) 33 ⟨.slice 52, 1, [.slice none 0 0], 24⟩
 (.node (.node (.node .nil 34 ⟨.struct #[⟨ "Open", 30, 0, false, "", "", 0⟩, ⟨ "Lots", 31, 1, false, "", "", 24⟩, ⟨ "Positions", 32, 2, false, "", "", 48⟩, ⟨ "Lines", 33, 3, false, "", "", 72⟩], 4, [.slice none 0 0, .slice none 0 0, .slice none 0 0, .slice none 0 0], 96⟩
 .nil) 35 ⟨.struct #[⟨ "Open", 30, 0, false, "", "", 0⟩, ⟨ "Lots", 31, 1, false, "", "", 24⟩, ⟨ "Positions", 32, 2, false, "", "", 48⟩, ⟨ "Lines", 33, 3, false, "", "", 72⟩], 4, [.slice none 0 0, .slice none 0 0, .slice none 0 0, .slice none 0 0], 96⟩
 .nil) 36 ⟨.tuple #[29, 35], 1, [.tuple #[.agg #[.int .i64 (0), .int .i64 (0), .int .i64 (0), .int .i64 (0), .slice none 0 0, .slice none 0 0, .slice none 0 0, .slice none 0 0, .slice none 0 0], .agg #[.slice none 0 0, .slice none 0 0, .slice none 0 0, .slice none 0 0]]], 0⟩
 (.node .nil 37 ⟨.func #[] #[29, 35] false, 1, [.nilFunc], 8⟩
 .nil))) 38 ⟨.int .i64, 1, [.int .i64 (0)], 8⟩
 (.node (.node (.node (.node .nil 39 ⟨.tuple #[9, 38], 1, [.tuple #[.string ⟨#[]⟩, .int .i64 (0)]], 0⟩
 .nil) 40 ⟨.func #[29, 35] #[9, 38] false, 1, [.nilFunc], 8⟩
 .nil) 41 ⟨.func #[2, 29, 35] #[9, 38] false, 1, [.nilFunc], 8⟩
 (.node .nil 42 ⟨.tuple #[2, 29, 35, 38], 1, [.tuple #[.int .i64 (0), .agg #[.int .i64 (0), .int .i64 (0), .int .i64 (0), .int .i64 (0), .slice none 0 0, .slice none 0 0, .slice none 0 0, .slice none 0 0, .slice none 0 0], .agg #[.slice none 0 0, .slice none 0 0, .slice none 0 0, .slice none 0 0], .int .i64 (0)]], 0⟩
 .nil)) 43 ⟨.func #[9] #[2, 29, 35, 38] false, 1, [.nilFunc], 8⟩
 (.node (.node (.node .nil 44 ⟨.func #[29, 29] #[4] false, 1, [.nilFunc], 8⟩
 .nil) 45 ⟨.func #[35, 35] #[4] false, 1, [.nilFunc], 8⟩
 .nil) 46 ⟨.func #[9, 29, 35] #[4] false, 1, [.nilFunc], 8⟩
 (.node .nil 47 ⟨.slice 5, 1, [.slice none 0 0], 24⟩
 .nil))))) 48 ⟨.tuple #[29, 35, 38], 1, [.tuple #[.agg #[.int .i64 (0), .int .i64 (0), .int .i64 (0), .int .i64 (0), .slice none 0 0, .slice none 0 0, .slice none 0 0, .slice none 0 0, .slice none 0 0], .agg #[.slice none 0 0, .slice none 0 0, .slice none 0 0, .slice none 0 0], .int .i64 (0)]], 0⟩
 (.node (.node (.node (.node (.node (.node .nil 49 ⟨.func #[9] #[29, 35, 38] false, 1, [.nilFunc], 8⟩
 .nil) 50 ⟨.func #[9, 38] #[4] false, 1, [.nilFunc], 8⟩
 .nil) 51 ⟨.struct #[⟨ "Acct", 3, 0, false, "", "", 0⟩, ⟨ "Seq", 2, 1, false, "", "", 8⟩, ⟨ "Kind", 5, 2, false, "", "", 16⟩, ⟨ "Delta", 2, 3, false, "", "", 24⟩, ⟨ "Balance", 2, 4, false, "", "", 32⟩], 5, [.int .i64 (0), .int .i64 (0), .int .u8 (0), .int .i64 (0), .int .i64 (0)], 40⟩
 (.node (.node .nil 52 ⟨.struct #[⟨ "Acct", 3, 0, false, "", "", 0⟩, ⟨ "Seq", 2, 1, false, "", "", 8⟩, ⟨ "Kind", 5, 2, false, "", "", 16⟩, ⟨ "Delta", 2, 3, false, "", "", 24⟩, ⟨ "Balance", 2, 4, false, "", "", 32⟩], 5, [.int .i64 (0), .int .i64 (0), .int .u8 (0), .int .i64 (0), .int .i64 (0)], 40⟩
 .nil) 53 ⟨.func #[3, 5] #[9] false, 1, [.nilFunc], 8⟩
 .nil)) 54 ⟨.func #[29] #[3] false, 1, [.nilFunc], 8⟩
 (.node (.node (.node .nil 55 ⟨.func #[35] #[3] false, 1, [.nilFunc], 8⟩
 .nil) 56 ⟨.func #[29] #[29] false, 1, [.nilFunc], 8⟩
 .nil) 57 ⟨.func #[35] #[35] false, 1, [.nilFunc], 8⟩
 (.node .nil 58 ⟨.func #[29, 35, 2] #[4] false, 1, [.nilFunc], 8⟩
 .nil))) 59 ⟨.func #[29] #[] false, 1, [.nilFunc], 8⟩
 (.node (.node (.node (.node .nil 60 ⟨.func #[35] #[] false, 1, [.nilFunc], 8⟩
 .nil) 61 ⟨.func #[9] #[4] false, 1, [.nilFunc], 8⟩
 .nil) 62 ⟨.func #[29] #[4] false, 1, [.nilFunc], 8⟩
 (.node .nil 63 ⟨.func #[35] #[4] false, 1, [.nilFunc], 8⟩
 .nil)) 64 ⟨.func #[29, 29, 35, 35, 9] #[4] false, 1, [.nilFunc], 8⟩
 (.node (.node (.node .nil 65 ⟨.int .u32, 1, [.int .u32 (0)], 4⟩
 .nil) 66 ⟨.int .u64, 1, [.int .u64 (0)], 8⟩
 .nil) 67 ⟨.func #[29, 35, 2, 3, 65, 9] #[4] false, 1, [.nilFunc], 8⟩
 (.node .nil 68 ⟨.func #[] #[29] false, 1, [.nilFunc], 8⟩
 .nil)))) 69 ⟨.struct #[⟨ "Name", 9, 0, false, "", "", 0⟩, ⟨ "Open", 4, 1, false, "", "", 16⟩], 2, [.string ⟨#[]⟩, .bool false], 24⟩
 (.node (.node (.node (.node (.node .nil 70 ⟨.struct #[⟨ "Name", 9, 0, false, "", "", 0⟩, ⟨ "Open", 4, 1, false, "", "", 16⟩], 2, [.string ⟨#[]⟩, .bool false], 24⟩
 .nil) 71 ⟨.struct #[⟨ "Name", 9, 0, false, "", "", 0⟩, ⟨ "Tick", 2, 1, false, "", "", 16⟩, ⟨ "Halted", 4, 2, false, "", "", 24⟩], 3, [.string ⟨#[]⟩, .int .i64 (0), .bool false], 32⟩
 .nil) 72 ⟨.struct #[⟨ "Name", 9, 0, false, "", "", 0⟩, ⟨ "Tick", 2, 1, false, "", "", 16⟩, ⟨ "Halted", 4, 2, false, "", "", 24⟩], 3, [.string ⟨#[]⟩, .int .i64 (0), .bool false], 32⟩
 (.node (.node .nil 73 ⟨.struct #[⟨ "Acct", 3, 0, false, "", "", 0⟩, ⟨ "Asset", 3, 1, false, "", "", 8⟩, ⟨ "Free", 2, 2, false, "", "", 16⟩, ⟨ "Held", 2, 3, false, "", "", 24⟩], 4, [.int .i64 (0), .int .i64 (0), .int .i64 (0), .int .i64 (0)], 32⟩
 .nil) 74 ⟨.struct #[⟨ "Acct", 3, 0, false, "", "", 0⟩, ⟨ "Asset", 3, 1, false, "", "", 8⟩, ⟨ "Free", 2, 2, false, "", "", 16⟩, ⟨ "Held", 2, 3, false, "", "", 24⟩], 4, [.int .i64 (0), .int .i64 (0), .int .i64 (0), .int .i64 (0)], 32⟩
 .nil)) 75 ⟨.struct #[⟨ "ID", 2, 0, false, "", "", 0⟩, ⟨ "Acct", 3, 1, false, "", "", 8⟩, ⟨ "Inst", 3, 2, false, "", "", 16⟩, ⟨ "Side", 5, 3, false, "", "", 24⟩, ⟨ "Price", 2, 4, false, "", "", 32⟩, ⟨ "Left", 2, 5, false, "", "", 40⟩], 6, [.int .i64 (0), .int .i64 (0), .int .i64 (0), .int .u8 (0), .int .i64 (0), .int .i64 (0)], 48⟩
 (.node (.node (.node .nil 76 ⟨.struct #[⟨ "ID", 2, 0, false, "", "", 0⟩, ⟨ "Acct", 3, 1, false, "", "", 8⟩, ⟨ "Inst", 3, 2, false, "", "", 16⟩, ⟨ "Side", 5, 3, false, "", "", 24⟩, ⟨ "Price", 2, 4, false, "", "", 32⟩, ⟨ "Left", 2, 5, false, "", "", 40⟩], 6, [.int .i64 (0), .int .i64 (0), .int .i64 (0), .int .u8 (0), .int .i64 (0), .int .i64 (0)], 48⟩
 .nil) 77 ⟨.struct #[⟨ "Acct", 3, 0, false, "", "", 0⟩, ⟨ "Amount", 2, 1, false, "", "", 8⟩], 2, [.int .i64 (0), .int .i64 (0)], 16⟩
 .nil) 78 ⟨.struct #[⟨ "Acct", 3, 0, false, "", "", 0⟩, ⟨ "Amount", 2, 1, false, "", "", 8⟩], 2, [.int .i64 (0), .int .i64 (0)], 16⟩
 (.node .nil 79 ⟨.slice 78, 1, [.slice none 0 0], 24⟩
 .nil))) 80 ⟨.struct #[⟨ "ID", 2, 0, false, "", "", 0⟩, ⟨ "Seller", 3, 1, false, "", "", 8⟩, ⟨ "Inst", 3, 2, false, "", "", 16⟩, ⟨ "Sealed", 4, 3, false, "", "", 24⟩, ⟨ "Qty", 2, 4, false, "", "", 32⟩, ⟨ "Reserve", 2, 5, false, "", "", 40⟩, ⟨ "Step", 2, 6, false, "", "", 48⟩, ⟨ "End", 2, 7, false, "", "", 56⟩, ⟨ "Bids", 79, 8, false, "", "", 64⟩], 9, [.int .i64 (0), .int .i64 (0), .int .i64 (0), .bool false, .int .i64 (0), .int .i64 (0), .int .i64 (0), .int .i64 (0), .slice none 0 0], 88⟩
 (.node (.node (.node (.node .nil 81 ⟨.struct #[⟨ "ID", 2, 0, false, "", "", 0⟩, ⟨ "Seller", 3, 1, false, "", "", 8⟩, ⟨ "Inst", 3, 2, false, "", "", 16⟩, ⟨ "Sealed", 4, 3, false, "", "", 24⟩, ⟨ "Qty", 2, 4, false, "", "", 32⟩, ⟨ "Reserve", 2, 5, false, "", "", 40⟩, ⟨ "Step", 2, 6, false, "", "", 48⟩, ⟨ "End", 2, 7, false, "", "", 56⟩, ⟨ "Bids", 79, 8, false, "", "", 64⟩], 9, [.int .i64 (0), .int .i64 (0), .int .i64 (0), .bool false, .int .i64 (0), .int .i64 (0), .int .i64 (0), .int .i64 (0), .slice none 0 0], 88⟩
 .nil) 82 ⟨.struct #[⟨ "Acct", 3, 0, false, "", "", 0⟩, ⟨ "ID", 2, 1, false, "", "", 8⟩, ⟨ "Inst", 3, 2, false, "", "", 16⟩, ⟨ "Side", 5, 3, false, "", "", 24⟩, ⟨ "Price", 2, 4, false, "", "", 32⟩, ⟨ "Left", 2, 5, false, "", "", 40⟩], 6, [.int .i64 (0), .int .i64 (0), .int .i64 (0), .int .u8 (0), .int .i64 (0), .int .i64 (0)], 48⟩
 .nil) 83 ⟨.struct #[⟨ "Acct", 3, 0, false, "", "", 0⟩, ⟨ "ID", 2, 1, false, "", "", 8⟩, ⟨ "Inst", 3, 2, false, "", "", 16⟩, ⟨ "Side", 5, 3, false, "", "", 24⟩, ⟨ "Price", 2, 4, false, "", "", 32⟩, ⟨ "Left", 2, 5, false, "", "", 40⟩], 6, [.int .i64 (0), .int .i64 (0), .int .i64 (0), .int .u8 (0), .int .i64 (0), .int .i64 (0)], 48⟩
 (.node .nil 84 ⟨.struct #[⟨ "ID", 2, 0, false, "", "", 0⟩, ⟨ "Seller", 3, 1, false, "", "", 8⟩, ⟨ "Inst", 3, 2, false, "", "", 16⟩, ⟨ "Qty", 2, 3, false, "", "", 24⟩], 4, [.int .i64 (0), .int .i64 (0), .int .i64 (0), .int .i64 (0)], 32⟩
 .nil)) 85 ⟨.struct #[⟨ "ID", 2, 0, false, "", "", 0⟩, ⟨ "Seller", 3, 1, false, "", "", 8⟩, ⟨ "Inst", 3, 2, false, "", "", 16⟩, ⟨ "Qty", 2, 3, false, "", "", 24⟩], 4, [.int .i64 (0), .int .i64 (0), .int .i64 (0), .int .i64 (0)], 32⟩
 (.node (.node (.node .nil 86 ⟨.struct #[⟨ "Acct", 3, 0, false, "", "", 0⟩, ⟨ "Inst", 3, 1, false, "", "", 8⟩, ⟨ "Bought", 2, 2, false, "", "", 16⟩, ⟨ "Sold", 2, 3, false, "", "", 24⟩, ⟨ "Spent", 2, 4, false, "", "", 32⟩, ⟨ "Got", 2, 5, false, "", "", 40⟩], 6, [.int .i64 (0), .int .i64 (0), .int .i64 (0), .int .i64 (0), .int .i64 (0), .int .i64 (0)], 48⟩
 .nil) 87 ⟨.struct #[⟨ "Acct", 3, 0, false, "", "", 0⟩, ⟨ "Inst", 3, 1, false, "", "", 8⟩, ⟨ "Bought", 2, 2, false, "", "", 16⟩, ⟨ "Sold", 2, 3, false, "", "", 24⟩, ⟨ "Spent", 2, 4, false, "", "", 32⟩, ⟨ "Got", 2, 5, false, "", "", 40⟩], 6, [.int .i64 (0), .int .i64 (0), .int .i64 (0), .int .i64 (0), .int .i64 (0), .int .i64 (0)], 48⟩
 .nil) 88 ⟨.pointer 90, 1, [.pointer none], 8⟩
 (.node .nil 89 ⟨.struct #[⟨ "b", 47, 0, false, "", "souk/wire", 0⟩], 1, [.slice none 0 0], 24⟩
 .nil)))))) 90 ⟨.struct #[⟨ "b", 47, 0, false, "", "souk/wire", 0⟩], 1, [.slice none 0 0], 24⟩
 (.node (.node (.node (.node (.node (.node (.node .nil 91 ⟨.func #[88, 29] #[] false, 1, [.nilFunc], 8⟩
 .nil) 92 ⟨.func #[88, 35] #[] false, 1, [.nilFunc], 8⟩
 .nil) 93 ⟨.func #[] #[3] false, 1, [.nilFunc], 8⟩
 (.node (.node .nil 94 ⟨.func #[] #[9] false, 1, [.nilFunc], 8⟩
 .nil) 95 ⟨.func #[9] #[] false, 1, [.nilFunc], 8⟩
 .nil)) 96 ⟨.func #[97] #[] false, 1, [.nilFunc], 8⟩
 (.node (.node (.node .nil 97 ⟨.int .u64, 1, [.int .u64 (0)], 8⟩
 .nil) 98 ⟨.func #[65] #[] false, 1, [.nilFunc], 8⟩
 .nil) 99 ⟨.func #[9] #[9] false, 1, [.nilFunc], 8⟩
 (.node .nil 100 ⟨.func #[38] #[2, 29, 35, 38] false, 1, [.nilFunc], 8⟩
 .nil))) 101 ⟨.func #[9] #[9, 38] false, 1, [.nilFunc], 8⟩
 (.node (.node (.node (.node .nil 102 ⟨.pointer 166, 1, [.pointer none], 8⟩
 .nil) 103 ⟨.func #[9] #[102] false, 1, [.nilFunc], 8⟩
 .nil) 104 ⟨.func #[3] #[9] false, 1, [.nilFunc], 8⟩
 (.node (.node .nil 105 ⟨.func #[] #[97] false, 1, [.nilFunc], 8⟩
 .nil) 106 ⟨.func #[] #[65] false, 1, [.nilFunc], 8⟩
 .nil)) 107 ⟨.tuple #[38, 3], 1, [.tuple #[.int .i64 (0), .int .i64 (0)]], 0⟩
 (.node (.node (.node .nil 108 ⟨.func #[] #[38, 3] false, 1, [.nilFunc], 8⟩
 .nil) 109 ⟨.func #[23, 23] #[4] false, 1, [.nilFunc], 8⟩
 .nil) 110 ⟨.func #[24, 24] #[4] false, 1, [.nilFunc], 8⟩
 (.node .nil 111 ⟨.func #[25, 25] #[4] false, 1, [.nilFunc], 8⟩
 .nil)))) 112 ⟨.func #[26, 26] #[4] false, 1, [.nilFunc], 8⟩
 (.node (.node (.node (.node (.node .nil 113 ⟨.func #[27, 27, 114] #[4] false, 1, [.nilFunc], 8⟩
 .nil) 114 ⟨.func #[81, 81] #[4] false, 1, [.nilFunc], 8⟩
 .nil) 115 ⟨.func #[30, 30] #[4] false, 1, [.nilFunc], 8⟩
 (.node (.node .nil 116 ⟨.func #[31, 31] #[4] false, 1, [.nilFunc], 8⟩
 .nil) 117 ⟨.func #[32, 32] #[4] false, 1, [.nilFunc], 8⟩
 .nil)) 118 ⟨.func #[33, 33] #[4] false, 1, [.nilFunc], 8⟩
 (.node (.node (.node .nil 119 ⟨.pointer 121, 1, [.pointer none], 8⟩
 .nil) 120 ⟨.struct #[⟨ "Reader", 102, 0, true, "", "", 0⟩, ⟨ "size", 3, 1, false, "", "souk/snap", 8⟩, ⟨ "wrong", 4, 2, false, "", "souk/snap", 16⟩], 3, [.pointer none, .int .i64 (0), .bool false], 24⟩
 .nil) 121 ⟨.struct #[⟨ "Reader", 102, 0, true, "", "", 0⟩, ⟨ "size", 3, 1, false, "", "souk/snap", 8⟩, ⟨ "wrong", 4, 2, false, "", "souk/snap", 16⟩], 3, [.pointer none, .int .i64 (0), .bool false], 24⟩
 (.node .nil 122 ⟨.func #[] #[35] false, 1, [.nilFunc], 8⟩
 .nil))) 123 ⟨.func #[] #[38] false, 1, [.nilFunc], 8⟩
 (.node (.node (.node (.node .nil 124 ⟨.func #[29] #[9] false, 1, [.nilFunc], 8⟩
 .nil) 125 ⟨.func #[35] #[9] false, 1, [.nilFunc], 8⟩
 .nil) 126 ⟨.func #[97, 3] #[9] false, 1, [.nilFunc], 8⟩
 (.node .nil 127 ⟨.pointer 132, 1, [.pointer none], 8⟩
 .nil)) 128 ⟨.pointer 130, 1, [.pointer none], 8⟩
 (.node (.node (.node .nil 129 ⟨.struct #[⟨ "S", 9, 0, false, "", "", 0⟩, ⟨ "At", 3, 1, false, "", "", 16⟩, ⟨ "E", 38, 2, false, "", "", 24⟩, ⟨ "To", 3, 3, false, "", "", 32⟩], 4, [.string ⟨#[]⟩, .int .i64 (0), .int .i64 (0), .int .i64 (0)], 40⟩
 .nil) 130 ⟨.struct #[⟨ "S", 9, 0, false, "", "", 0⟩, ⟨ "At", 3, 1, false, "", "", 16⟩, ⟨ "E", 38, 2, false, "", "", 24⟩, ⟨ "To", 3, 3, false, "", "", 32⟩], 4, [.string ⟨#[]⟩, .int .i64 (0), .int .i64 (0), .int .i64 (0)], 40⟩
 .nil) 131 ⟨.struct #[⟨ "r", 128, 0, false, "", "souk/soukref26", 0⟩, ⟨ "ok", 4, 1, false, "", "souk/soukref26", 8⟩], 2, [.pointer none, .bool false], 16⟩
 (.node .nil 132 ⟨.struct #[⟨ "r", 128, 0, false, "", "souk/soukref26", 0⟩, ⟨ "ok", 4, 1, false, "", "souk/soukref26", 8⟩], 2, [.pointer none, .bool false], 16⟩
 .nil))))) 133 ⟨.func #[3] #[97] false, 1, [.nilFunc], 8⟩
 (.node (.node (.node (.node (.node (.node .nil 134 ⟨.func #[30, 31] #[4] false, 1, [.nilFunc], 8⟩
 .nil) 135 ⟨.func #[32] #[4] false, 1, [.nilFunc], 8⟩
 .nil) 136 ⟨.func #[33] #[4] false, 1, [.nilFunc], 8⟩
 (.node (.node .nil 137 ⟨.func #[88, 209] #[] true, 1, [.nilFunc], 8⟩
 .nil) 138 ⟨.func #[88, 23, 140] #[] false, 1, [.nilFunc], 8⟩
 .nil)) 139 ⟨.func #[88, 4] #[] false, 1, [.nilFunc], 8⟩
 (.node (.node (.node .nil 140 ⟨.func #[70] #[] false, 1, [.nilFunc], 8⟩
 .nil) 141 ⟨.func #[88, 24, 142] #[] false, 1, [.nilFunc], 8⟩
 .nil) 142 ⟨.func #[72] #[] false, 1, [.nilFunc], 8⟩
 (.node .nil 143 ⟨.func #[88, 25, 145] #[] false, 1, [.nilFunc], 8⟩
 .nil))) 144 ⟨.func #[74] #[74] false, 1, [.nilFunc], 8⟩
 (.node (.node (.node (.node .nil 145 ⟨.func #[74] #[] false, 1, [.nilFunc], 8⟩
 .nil) 146 ⟨.func #[88, 26, 148] #[] false, 1, [.nilFunc], 8⟩
 .nil) 147 ⟨.func #[5] #[] false, 1, [.nilFunc], 8⟩
 (.node .nil 148 ⟨.func #[76] #[] false, 1, [.nilFunc], 8⟩
 .nil)) 149 ⟨.func #[88, 27, 152] #[] false, 1, [.nilFunc], 8⟩
 (.node (.node (.node .nil 150 ⟨.func #[88, 79, 151] #[] false, 1, [.nilFunc], 8⟩
 .nil) 151 ⟨.func #[78] #[] false, 1, [.nilFunc], 8⟩
 .nil) 152 ⟨.func #[81] #[] false, 1, [.nilFunc], 8⟩
 (.node .nil 153 ⟨.func #[88, 30, 154] #[] false, 1, [.nilFunc], 8⟩
 .nil)))) 154 ⟨.func #[83] #[] false, 1, [.nilFunc], 8⟩
 (.node (.node (.node (.node (.node .nil 155 ⟨.func #[88, 31, 156] #[] false, 1, [.nilFunc], 8⟩
 .nil) 156 ⟨.func #[85] #[] false, 1, [.nilFunc], 8⟩
 .nil) 157 ⟨.func #[88, 32, 158] #[] false, 1, [.nilFunc], 8⟩
 (.node (.node .nil 158 ⟨.func #[87] #[] false, 1, [.nilFunc], 8⟩
 .nil) 159 ⟨.func #[88, 33, 161] #[] false, 1, [.nilFunc], 8⟩
 .nil)) 160 ⟨.func #[2] #[2] false, 1, [.nilFunc], 8⟩
 (.node (.node (.node .nil 161 ⟨.func #[52] #[] false, 1, [.nilFunc], 8⟩
 .nil) 162 ⟨.func #[97, 3] #[] false, 1, [.nilFunc], 8⟩
 .nil) 163 ⟨.func #[65] #[47] false, 1, [.nilFunc], 8⟩
 (.node .nil 164 ⟨.func #[9] #[65] false, 1, [.nilFunc], 8⟩
 .nil))) 165 ⟨.struct #[⟨ "s", 9, 0, false, "", "souk/wire", 0⟩, ⟨ "at", 3, 1, false, "", "souk/wire", 16⟩, ⟨ "e", 38, 2, false, "", "souk/wire", 24⟩, ⟨ "to", 3, 3, false, "", "souk/wire", 32⟩], 4, [.string ⟨#[]⟩, .int .i64 (0), .int .i64 (0), .int .i64 (0)], 40⟩
 (.node (.node (.node (.node .nil 166 ⟨.struct #[⟨ "s", 9, 0, false, "", "souk/wire", 0⟩, ⟨ "at", 3, 1, false, "", "souk/wire", 16⟩, ⟨ "e", 38, 2, false, "", "souk/wire", 24⟩, ⟨ "to", 3, 3, false, "", "souk/wire", 32⟩], 4, [.string ⟨#[]⟩, .int .i64 (0), .int .i64 (0), .int .i64 (0)], 40⟩
 .nil) 167 ⟨.tuple #[9, 4], 1, [.tuple #[.string ⟨#[]⟩, .bool false]], 0⟩
 .nil) 168 ⟨.func #[3] #[9, 4] false, 1, [.nilFunc], 8⟩
 (.node .nil 169 ⟨.func #[102, 3] #[97] false, 1, [.nilFunc], 8⟩
 .nil)) 170 ⟨.func #[102, 3] #[65] false, 1, [.nilFunc], 8⟩
 (.node (.node (.node .nil 171 ⟨.func #[79, 79] #[4] false, 1, [.nilFunc], 8⟩
 .nil) 172 ⟨.func #[] #[2] false, 1, [.nilFunc], 8⟩
 .nil) 173 ⟨.func #[119, 174] #[23] false, 1, [.nilFunc], 8⟩
 (.node .nil 174 ⟨.func #[] #[70] false, 1, [.nilFunc], 8⟩
 .nil))))))) 175 ⟨.func #[119, 176] #[24] false, 1, [.nilFunc], 8⟩
 (.node (.node (.node (.node (.node (.node (.node (.node .nil 176 ⟨.func #[] #[72] false, 1, [.nilFunc], 8⟩
 .nil) 177 ⟨.func #[119, 179] #[25] false, 1, [.nilFunc], 8⟩
 .nil) 178 ⟨.func #[3] #[3] false, 1, [.nilFunc], 8⟩
 (.node (.node .nil 179 ⟨.func #[] #[74] false, 1, [.nilFunc], 8⟩
 .nil) 180 ⟨.func #[119, 182] #[26] false, 1, [.nilFunc], 8⟩
 .nil)) 181 ⟨.func #[] #[5] false, 1, [.nilFunc], 8⟩
 (.node (.node (.node .nil 182 ⟨.func #[] #[76] false, 1, [.nilFunc], 8⟩
 .nil) 183 ⟨.func #[119, 186] #[27] false, 1, [.nilFunc], 8⟩
 .nil) 184 ⟨.func #[119, 185] #[79] false, 1, [.nilFunc], 8⟩
 (.node .nil 185 ⟨.func #[] #[78] false, 1, [.nilFunc], 8⟩
 .nil))) 186 ⟨.func #[] #[81] false, 1, [.nilFunc], 8⟩
 (.node (.node (.node (.node .nil 187 ⟨.func #[119, 188] #[30] false, 1, [.nilFunc], 8⟩
 .nil) 188 ⟨.func #[] #[83] false, 1, [.nilFunc], 8⟩
 .nil) 189 ⟨.func #[119, 190] #[31] false, 1, [.nilFunc], 8⟩
 (.node (.node .nil 190 ⟨.func #[] #[85] false, 1, [.nilFunc], 8⟩
 .nil) 191 ⟨.func #[119, 192] #[32] false, 1, [.nilFunc], 8⟩
 .nil)) 192 ⟨.func #[] #[87] false, 1, [.nilFunc], 8⟩
 (.node (.node (.node .nil 193 ⟨.func #[119, 194] #[33] false, 1, [.nilFunc], 8⟩
 .nil) 194 ⟨.func #[] #[52] false, 1, [.nilFunc], 8⟩
 .nil) 195 ⟨.func #[2, 2, 2] #[4] false, 1, [.nilFunc], 8⟩
 (.node .nil 196 ⟨.func #[209] #[9] true, 1, [.nilFunc], 8⟩
 .nil)))) 197 ⟨.func #[4] #[9] false, 1, [.nilFunc], 8⟩
 (.node (.node (.node (.node (.node .nil 198 ⟨.func #[2] #[9] false, 1, [.nilFunc], 8⟩
 .nil) 199 ⟨.func #[65] #[9] false, 1, [.nilFunc], 8⟩
 .nil) 200 ⟨.func #[38, 3] #[] false, 1, [.nilFunc], 8⟩
 (.node (.node .nil 201 ⟨.slice 204, 1, [.slice none 0 0], 24⟩
 .nil) 202 ⟨.func #[] #[201] false, 1, [.nilFunc], 8⟩
 .nil)) 203 ⟨.struct #[⟨ "word", 9, 0, false, "", "souk/state", 0⟩, ⟨ "ok", 62, 1, false, "", "souk/state", 16⟩], 2, [.string ⟨#[]⟩, .nilFunc], 24⟩
 (.node (.node (.node .nil 204 ⟨.struct #[⟨ "word", 9, 0, false, "", "souk/state", 0⟩, ⟨ "ok", 62, 1, false, "", "souk/state", 16⟩], 2, [.string ⟨#[]⟩, .nilFunc], 24⟩
 .nil) 205 ⟨.func #[30, 206] #[4] false, 1, [.nilFunc], 8⟩
 .nil) 206 ⟨.func #[83, 83] #[3] false, 1, [.nilFunc], 8⟩
 (.node .nil 207 ⟨.func #[31, 208] #[4] false, 1, [.nilFunc], 8⟩
 .nil))) 208 ⟨.func #[85, 85] #[3] false, 1, [.nilFunc], 8⟩
 (.node (.node (.node (.node .nil 209 ⟨.slice 2, 1, [.slice none 0 0], 24⟩
 .nil) 210 ⟨.func #[83] #[4] false, 1, [.nilFunc], 8⟩
 .nil) 211 ⟨.func #[209] #[] false, 1, [.nilFunc], 8⟩
 (.node .nil 212 ⟨.func #[209] #[209] false, 1, [.nilFunc], 8⟩
 .nil)) 213 ⟨.func #[31, 214] #[4] false, 1, [.nilFunc], 8⟩
 (.node (.node (.node .nil 214 ⟨.func #[85] #[4] false, 1, [.nilFunc], 8⟩
 .nil) 215 ⟨.func #[2] #[4] false, 1, [.nilFunc], 8⟩
 .nil) 216 ⟨.func #[87, 87] #[3] false, 1, [.nilFunc], 8⟩
 (.node .nil 217 ⟨.map 3 2, 1, [.map none], 8⟩
 .nil))))) 218 ⟨.tuple #[2, 38], 1, [.tuple #[.int .i64 (0), .int .i64 (0)]], 0⟩
 (.node (.node (.node (.node (.node (.node .nil 219 ⟨.func #[2, 2] #[2, 38] false, 1, [.nilFunc], 8⟩
 .nil) 220 ⟨.func #[47, 5] #[4] false, 1, [.nilFunc], 8⟩
 .nil) 221 ⟨.func #[] #[47] false, 1, [.nilFunc], 8⟩
 (.node (.node .nil 222 ⟨.func #[65, 9] #[65] false, 1, [.nilFunc], 8⟩
 .nil) 223 ⟨.func #[97] #[97] false, 1, [.nilFunc], 8⟩
 .nil)) 224 ⟨.func #[102, 3] #[5] false, 1, [.nilFunc], 8⟩
 (.node (.node (.node .nil 225 ⟨.func #[29, 9] #[3] false, 1, [.nilFunc], 8⟩
 .nil) 226 ⟨.func #[25] #[4] false, 1, [.nilFunc], 8⟩
 .nil) 227 ⟨.tuple #[70, 4], 1, [.tuple #[.agg #[.string ⟨#[]⟩, .bool false], .bool false]], 0⟩
 (.node .nil 228 ⟨.func #[29, 3] #[70, 4] false, 1, [.nilFunc], 8⟩
 .nil))) 229 ⟨.func #[26] #[4] false, 1, [.nilFunc], 8⟩
 (.node (.node (.node (.node .nil 230 ⟨.tuple #[72, 4], 1, [.tuple #[.agg #[.string ⟨#[]⟩, .int .i64 (0), .bool false], .bool false]], 0⟩
 .nil) 231 ⟨.func #[29, 3] #[72, 4] false, 1, [.nilFunc], 8⟩
 .nil) 232 ⟨.func #[27] #[4] false, 1, [.nilFunc], 8⟩
 (.node .nil 233 ⟨.func #[25, 3, 3] #[74] false, 1, [.nilFunc], 8⟩
 .nil)) 234 ⟨.func #[29, 3, 3] #[2] false, 1, [.nilFunc], 8⟩
 (.node (.node (.node .nil 235 ⟨.func #[2, 2] #[4] false, 1, [.nilFunc], 8⟩
 .nil) 236 ⟨.func #[33, 3] #[2] false, 1, [.nilFunc], 8⟩
 .nil) 237 ⟨.func #[97] #[9] false, 1, [.nilFunc], 8⟩
 (.node .nil 238 ⟨.func #[271] #[3] true, 1, [.nilFunc], 8⟩
 .nil)))) 239 ⟨.func #[3, 3] #[3] false, 1, [.nilFunc], 8⟩
 (.node (.node (.node (.node (.node .nil 240 ⟨.func #[2, 2] #[3] false, 1, [.nilFunc], 8⟩
 .nil) 241 ⟨.func #[3, 3] #[4] false, 1, [.nilFunc], 8⟩
 .nil) 242 ⟨.func #[209, 3, 3, 3] #[] false, 1, [.nilFunc], 8⟩
 (.node (.node .nil 243 ⟨.func #[66] #[3] false, 1, [.nilFunc], 8⟩
 .nil) 244 ⟨.func #[31, 214] #[3] false, 1, [.nilFunc], 8⟩
 .nil)) 245 ⟨.func #[209] #[2, 38] true, 1, [.nilFunc], 8⟩
 (.node (.node (.node .nil 246 ⟨.func #[47, 5] #[3] false, 1, [.nilFunc], 8⟩
 .nil) 247 ⟨.func #[248, 65, 9] #[65] false, 1, [.nilFunc], 8⟩
 .nil) 248 ⟨.array 256 65, 256, [.int .u32 (0), .int .u32 (0), .int .u32 (0), .int .u32 (0), .int .u32 (0), .int .u32 (0), .int .u32 (0), .int .u32 (0), .int .u32 (0), .int .u32 (0), .int .u32 (0), .int .u32 (0), .int .u32 (0), .int .u32 (0), .int .u32 (0), .int .u32 (0), .int .u32 (0), .int .u32 (0), .int .u32 (0), .int .u32 (0), .int .u32 (0), .int .u32 (0), .int .u32 (0), .int .u32 (0), .int .u32 (0), .int .u32 (0), .int .u32 (0), .int .u32 (0), .int .u32 (0), .int .u32 (0), .int .u32 (0), .int .u32 (0), .int .u32 (0), .int .u32 (0), .int .u32 (0), .int .u32 (0), .int .u32 (0), .int .u32 (0), .int .u32 (0), .int .u32 (0), .int .u32 (0), .int .u32 (0), .int .u32 (0), .int .u32 (0), .int .u32 (0), .int .u32 (0), .int .u32 (0), .int .u32 (0), .int .u32 (0), .int .u32 (0), .int .u32 (0), .int .u32 (0), .int .u32 (0), .int .u32 (0), .int .u32 (0), .int .u32 (0), .int .u32 (0), .int .u32 (0), .int .u32 (0), .int .u32 (0), .int .u32 (0), .int .u32 (0), .int .u32 (0), .int .u32 (0), .int .u32 (0), .int .u32 (0), .int .u32 (0), .int .u32 (0), .int .u32 (0), .int .u32 (0), .int .u32 (0), .int .u32 (0), .int .u32 (0), .int .u32 (0), .int .u32 (0), .int .u32 (0), .int .u32 (0), .int .u32 (0), .int .u32 (0), .int .u32 (0), .int .u32 (0), .int .u32 (0), .int .u32 (0), .int .u32 (0), .int .u32 (0), .int .u32 (0), .int .u32 (0), .int .u32 (0), .int .u32 (0), .int .u32 (0), .int .u32 (0), .int .u32 (0), .int .u32 (0), .int .u32 (0), .int .u32 (0), .int .u32 (0), .int .u32 (0), .int .u32 (0), .int .u32 (0), .int .u32 (0), .int .u32 (0), .int .u32 (0), .int .u32 (0), .int .u32 (0), .int .u32 (0), .int .u32 (0), .int .u32 (0), .int .u32 (0), .int .u32 (0), .int .u32 (0), .int .u32 (0), .int .u32 (0), .int .u32 (0), .int .u32 (0), .int .u32 (0), .int .u32 (0), .int .u32 (0), .int .u32 (0), .int .u32 (0), .int .u32 (0), .int .u32 (0), .int .u32 (0), .int .u32 (0), .int .u32 (0), .int .u32 (0), .int .u32 (0), .int .u32 (0), .int .u32 (0), .int .u32 (0), .int .u32 (0), .int .u32 (0), .int .u32 (0), .int .u32 (0), .int .u32 (0), .int .u32 (0), .int .u32 (0), .int .u32 (0), .int .u32 (0), .int .u32 (0), .int .u32 (0), .int .u32 (0), .int .u32 (0), .int .u32 (0), .int .u32 (0), .int .u32 (0), .int .u32 (0), .int .u32 (0), .int .u32 (0), .int .u32 (0), .int .u32 (0), .int .u32 (0), .int .u32 (0), .int .u32 (0), .int .u32 (0), .int .u32 (0), .int .u32 (0), .int .u32 (0), .int .u32 (0), .int .u32 (0), .int .u32 (0), .int .u32 (0), .int .u32 (0), .int .u32 (0), .int .u32 (0), .int .u32 (0), .int .u32 (0), .int .u32 (0), .int .u32 (0), .int .u32 (0), .int .u32 (0), .int .u32 (0), .int .u32 (0), .int .u32 (0), .int .u32 (0), .int .u32 (0), .int .u32 (0), .int .u32 (0), .int .u32 (0), .int .u32 (0), .int .u32 (0), .int .u32 (0), .int .u32 (0), .int .u32 (0), .int .u32 (0), .int .u32 (0), .int .u32 (0), .int .u32 (0), .int .u32 (0), .int .u32 (0), .int .u32 (0), .int .u32 (0), .int .u32 (0), .int .u32 (0), .int .u32 (0), .int .u32 (0), .int .u32 (0), .int .u32 (0), .int .u32 (0), .int .u32 (0), .int .u32 (0), .int .u32 (0), .int .u32 (0), .int .u32 (0), .int .u32 (0), .int .u32 (0), .int .u32 (0), .int .u32 (0), .int .u32 (0), .int .u32 (0), .int .u32 (0), .int .u32 (0), .int .u32 (0), .int .u32 (0), .int .u32 (0), .int .u32 (0), .int .u32 (0), .int .u32 (0), .int .u32 (0), .int .u32 (0), .int .u32 (0), .int .u32 (0), .int .u32 (0), .int .u32 (0), .int .u32 (0), .int .u32 (0), .int .u32 (0), .int .u32 (0), .int .u32 (0), .int .u32 (0), .int .u32 (0), .int .u32 (0), .int .u32 (0), .int .u32 (0), .int .u32 (0), .int .u32 (0), .int .u32 (0), .int .u32 (0), .int .u32 (0), .int .u32 (0), .int .u32 (0), .int .u32 (0), .int .u32 (0), .int .u32 (0), .int .u32 (0), .int .u32 (0), .int .u32 (0), .int .u32 (0), .int .u32 (0), .int .u32 (0), .int .u32 (0), .int .u32 (0), .int .u32 (0), .int .u32 (0), .int .u32 (0), .int .u32 (0), .int .u32 (0)], 1024⟩
 (.node .nil 249 ⟨.func #[] #[248] false, 1, [.nilFunc], 8⟩
 .nil))) 250 ⟨.func #[97, 97, 3] #[97] false, 1, [.nilFunc], 8⟩
 (.node (.node (.node (.node .nil 251 ⟨.func #[76] #[4] false, 1, [.nilFunc], 8⟩
 .nil) 252 ⟨.func #[81] #[4] false, 1, [.nilFunc], 8⟩
 .nil) 253 ⟨.tuple #[3, 2], 1, [.tuple #[.int .i64 (0), .int .i64 (0)]], 0⟩
 (.node .nil 254 ⟨.func #[76] #[3, 2] false, 1, [.nilFunc], 8⟩
 .nil)) 255 ⟨.func #[65, 5] #[65] false, 1, [.nilFunc], 8⟩
 (.node (.node (.node .nil 256 ⟨.slice 9, 1, [.slice none 0 0], 24⟩
 .nil) 257 ⟨.func #[256] #[4] false, 1, [.nilFunc], 8⟩
 .nil) 258 ⟨.func #[29, 3] #[4] false, 1, [.nilFunc], 8⟩
 (.node .nil 259 ⟨.func #[74] #[4] false, 1, [.nilFunc], 8⟩
 .nil)))))) 260 ⟨.func #[25, 259] #[4] false, 1, [.nilFunc], 8⟩
 (.node (.node (.node (.node (.node (.node (.node .nil 261 ⟨.func #[26, 251] #[4] false, 1, [.nilFunc], 8⟩
 .nil) 262 ⟨.func #[78] #[4] false, 1, [.nilFunc], 8⟩
 .nil) 263 ⟨.func #[79, 262] #[4] false, 1, [.nilFunc], 8⟩
 (.node (.node .nil 264 ⟨.func #[27, 252] #[4] false, 1, [.nilFunc], 8⟩
 .nil) 265 ⟨.map 270 2, 1, [.map none], 8⟩
 .nil)) 266 ⟨.func #[303] #[] false, 1, [.nilFunc], 8⟩
 (.node (.node (.node .nil 267 ⟨.func #[303] #[] false, 1, [.nilFunc], 8⟩
 .nil) 268 ⟨.func #[29] #[267] false, 1, [.nilFunc], 8⟩
 .nil) 269 ⟨.struct #[⟨ "acct", 3, 0, false, "", "souk/state", 0⟩, ⟨ "asset", 3, 1, false, "", "souk/state", 8⟩], 2, [.int .i64 (0), .int .i64 (0)], 16⟩
 (.node .nil 270 ⟨.struct #[⟨ "acct", 3, 0, false, "", "souk/state", 0⟩, ⟨ "asset", 3, 1, false, "", "souk/state", 8⟩], 2, [.int .i64 (0), .int .i64 (0)], 16⟩
 .nil))) 271 ⟨.slice 3, 1, [.slice none 0 0], 24⟩
 (.node (.node (.node (.node .nil 272 ⟨.func #[3] #[4] false, 1, [.nilFunc], 8⟩
 .nil) 273 ⟨.func #[209, 3, 3] #[] false, 1, [.nilFunc], 8⟩
 .nil) 274 ⟨.int .i64, 1, [.int .i64 (0)], 8⟩
 (.node .nil 275 ⟨.tuple #[3, 274], 1, [.tuple #[.int .i64 (0), .int .i64 (0)]], 0⟩
 .nil)) 276 ⟨.func #[209, 3, 3] #[3, 274] false, 1, [.nilFunc], 8⟩
 (.node (.node (.node .nil 277 ⟨.func #[209, 3, 3] #[4] false, 1, [.nilFunc], 8⟩
 .nil) 278 ⟨.func #[209, 3, 3, 3] #[3] false, 1, [.nilFunc], 8⟩
 .nil) 279 ⟨.tuple #[3, 4], 1, [.tuple #[.int .i64 (0), .bool false]], 0⟩
 (.node .nil 280 ⟨.func #[209, 3, 3, 3] #[3, 4] false, 1, [.nilFunc], 8⟩
 .nil)))) 281 ⟨.func #[65] #[3] false, 1, [.nilFunc], 8⟩
 (.node (.node (.node (.node (.node .nil 282 ⟨.func #[97] #[3] false, 1, [.nilFunc], 8⟩
 .nil) 283 ⟨.struct #[⟨ "high", 2, 0, false, "", "souk/money", 0⟩, ⟨ "low", 97, 1, false, "", "souk/money", 8⟩], 2, [.int .i64 (0), .int .u64 (0)], 16⟩
 .nil) 284 ⟨.struct #[⟨ "high", 2, 0, false, "", "souk/money", 0⟩, ⟨ "low", 97, 1, false, "", "souk/money", 8⟩], 2, [.int .i64 (0), .int .u64 (0)], 16⟩
 (.node (.node .nil 285 ⟨.func #[2] #[284] false, 1, [.nilFunc], 8⟩
 .nil) 286 ⟨.func #[] #[2, 38] false, 1, [.nilFunc], 8⟩
 .nil)) 287 ⟨.func #[65] #[65] false, 1, [.nilFunc], 8⟩
 (.node (.node (.node .nil 288 ⟨.func #[65, 65] #[65] false, 1, [.nilFunc], 8⟩
 .nil) 289 ⟨.func #[256, 61] #[4] false, 1, [.nilFunc], 8⟩
 .nil) 290 ⟨.func #[256] #[] false, 1, [.nilFunc], 8⟩
 (.node .nil 291 ⟨.func #[256] #[256] false, 1, [.nilFunc], 8⟩
 .nil))) 292 ⟨.struct #[⟨ "acct", 3, 0, false, "", "souk/ledger", 0⟩, ⟨ "asset", 3, 1, false, "", "souk/ledger", 8⟩], 2, [.int .i64 (0), .int .i64 (0)], 16⟩
 (.node (.node (.node (.node .nil 293 ⟨.struct #[⟨ "acct", 3, 0, false, "", "souk/ledger", 0⟩, ⟨ "asset", 3, 1, false, "", "souk/ledger", 8⟩], 2, [.int .i64 (0), .int .i64 (0)], 16⟩
 .nil) 294 ⟨.array 17 2, 17, [.int .i64 (0), .int .i64 (0), .int .i64 (0), .int .i64 (0), .int .i64 (0), .int .i64 (0), .int .i64 (0), .int .i64 (0), .int .i64 (0), .int .i64 (0), .int .i64 (0), .int .i64 (0), .int .i64 (0), .int .i64 (0), .int .i64 (0), .int .i64 (0), .int .i64 (0)], 136⟩
 .nil) 295 ⟨.struct #[⟨ "place", 293, 0, true, "", "souk/ledger", 0⟩, ⟨ "free", 2, 2, false, "", "souk/ledger", 16⟩, ⟨ "held", 2, 3, false, "", "souk/ledger", 24⟩], 4, [.int .i64 (0), .int .i64 (0), .int .i64 (0), .int .i64 (0)], 32⟩
 (.node .nil 296 ⟨.struct #[⟨ "place", 293, 0, true, "", "souk/ledger", 0⟩, ⟨ "free", 2, 2, false, "", "souk/ledger", 16⟩, ⟨ "held", 2, 3, false, "", "souk/ledger", 24⟩], 4, [.int .i64 (0), .int .i64 (0), .int .i64 (0), .int .i64 (0)], 32⟩
 .nil)) 297 ⟨.func #[293, 293] #[3] false, 1, [.nilFunc], 8⟩
 (.node (.node (.node .nil 298 ⟨.func #[25, 259] #[3] false, 1, [.nilFunc], 8⟩
 .nil) 299 ⟨.func #[76, 76] #[3] false, 1, [.nilFunc], 8⟩
 .nil) 300 ⟨.func #[26, 251] #[3] false, 1, [.nilFunc], 8⟩
 (.node .nil 301 ⟨.func #[79, 262] #[3] false, 1, [.nilFunc], 8⟩
 .nil))))) 302 ⟨.func #[27, 252] #[3] false, 1, [.nilFunc], 8⟩
 (.node (.node (.node (.node (.node (.node .nil 303 ⟨.func #[270, 2] #[4] false, 1, [.nilFunc], 8⟩
 .nil) 304 ⟨.int .u64, 1, [.int .u64 (0)], 8⟩
 .nil) 305 ⟨.func #[3] #[66] false, 1, [.nilFunc], 8⟩
 (.node (.node .nil 306 ⟨.func #[209, 3, 307] #[3] false, 1, [.nilFunc], 8⟩
 .nil) 307 ⟨.pointer 3, 1, [.pointer none], 8⟩
 .nil)) 308 ⟨.func #[209, 3, 3, 3, 307] #[3] false, 1, [.nilFunc], 8⟩
 (.node (.node (.node .nil 309 ⟨.tuple #[97, 97], 1, [.tuple #[.int .u64 (0), .int .u64 (0)]], 0⟩
 .nil) 310 ⟨.func #[97, 97, 97] #[97, 97] false, 1, [.nilFunc], 8⟩
 .nil) 311 ⟨.func #[256, 61] #[3] false, 1, [.nilFunc], 8⟩
 (.node .nil 312 ⟨.func #[256, 3, 3, 3] #[] false, 1, [.nilFunc], 8⟩
 .nil))) 313 ⟨.interface #[("souk/auction.least", 344), ("souk/auction.may", 252), ("souk/auction.take", 345), ("souk/auction.wins", 346)], 1, [.nilIface], 16⟩
 (.node (.node (.node (.node .nil 314 ⟨.interface #[("souk/auction.least", 344), ("souk/auction.may", 252), ("souk/auction.take", 345), ("souk/auction.wins", 346)], 1, [.nilIface], 16⟩
 .nil) 315 ⟨.func #[81] #[314] false, 1, [.nilFunc], 8⟩
 .nil) 316 ⟨.pointer 304, 1, [.pointer none], 8⟩
 (.node .nil 317 ⟨.tuple #[3, 3], 1, [.tuple #[.int .i64 (0), .int .i64 (0)]], 0⟩
 .nil)) 318 ⟨.func #[209, 3, 3, 307] #[3, 3] false, 1, [.nilFunc], 8⟩
 (.node (.node (.node .nil 319 ⟨.func #[256, 3, 3] #[] false, 1, [.nilFunc], 8⟩
 .nil) 320 ⟨.func #[256, 3, 3] #[3, 274] false, 1, [.nilFunc], 8⟩
 .nil) 321 ⟨.func #[256, 3, 3] #[4] false, 1, [.nilFunc], 8⟩
 (.node .nil 322 ⟨.func #[9, 9] #[4] false, 1, [.nilFunc], 8⟩
 .nil)))) 323 ⟨.func #[256, 3, 3, 3] #[3] false, 1, [.nilFunc], 8⟩
 (.node (.node (.node (.node (.node .nil 324 ⟨.func #[256, 3, 3, 3] #[3, 4] false, 1, [.nilFunc], 8⟩
 .nil) 325 ⟨.struct #[], 0, [], 0⟩
 .nil) 326 ⟨.struct #[], 0, [], 0⟩
 (.node (.node .nil 327 ⟨.struct #[], 0, [], 0⟩
 .nil) 328 ⟨.func #[256, 3, 307] #[3] false, 1, [.nilFunc], 8⟩
 .nil)) 329 ⟨.func #[256, 3, 3, 3, 307] #[3] false, 1, [.nilFunc], 8⟩
 (.node (.node (.node .nil 330 ⟨.func #[256, 3, 3, 307] #[3, 3] false, 1, [.nilFunc], 8⟩
 .nil) 333 ⟨.array 0 16, 0, [], 0⟩
 .nil) 336 ⟨.int .u8, 1, [.int .u8 (0)], 1⟩
 (.node .nil 337 ⟨.int .u8, 1, [.int .u8 (0)], 1⟩
 .nil))) 338 ⟨.func #[347, 347] #[4] false, 1, [.nilFunc], 8⟩
 (.node (.node (.node (.node .nil 339 ⟨.pointer 5, 1, [.pointer none], 8⟩
 .nil) 340 ⟨.int .i32, 1, [.int .i32 (0)], 4⟩
 .nil) 341 ⟨.int .i32, 1, [.int .i32 (0)], 4⟩
 (.node .nil 342 ⟨.struct #[⟨ "Size_", 12, 0, false, "", "", 0⟩, ⟨ "PtrBytes", 12, 1, false, "", "", 8⟩, ⟨ "Hash", 65, 2, false, "", "", 16⟩, ⟨ "TFlag", 336, 3, false, "", "", 20⟩, ⟨ "Align_", 5, 4, false, "", "", 21⟩, ⟨ "FieldAlign_", 5, 5, false, "", "", 22⟩, ⟨ "Kind_", 337, 6, false, "", "", 23⟩, ⟨ "Equal", 338, 7, false, "", "", 24⟩, ⟨ "GCData", 339, 8, false, "", "", 32⟩, ⟨ "Str", 340, 9, false, "", "", 40⟩, ⟨ "PtrToThis", 341, 10, false, "", "", 44⟩], 11, [.int .u64 (0), .int .u64 (0), .int .u32 (0), .int .u8 (0), .int .u8 (0), .int .u8 (0), .int .u8 (0), .nilFunc, .pointer none, .int .i32 (0), .int .i32 (0)], 48⟩
 .nil)) 343 ⟨.struct #[⟨ "Size_", 12, 0, false, "", "", 0⟩, ⟨ "PtrBytes", 12, 1, false, "", "", 8⟩, ⟨ "Hash", 65, 2, false, "", "", 16⟩, ⟨ "TFlag", 336, 3, false, "", "", 20⟩, ⟨ "Align_", 5, 4, false, "", "", 21⟩, ⟨ "FieldAlign_", 5, 5, false, "", "", 22⟩, ⟨ "Kind_", 337, 6, false, "", "", 23⟩, ⟨ "Equal", 338, 7, false, "", "", 24⟩, ⟨ "GCData", 339, 8, false, "", "", 32⟩, ⟨ "Str", 340, 9, false, "", "", 40⟩, ⟨ "PtrToThis", 341, 10, false, "", "", 44⟩], 11, [.int .u64 (0), .int .u64 (0), .int .u32 (0), .int .u8 (0), .int .u8 (0), .int .u8 (0), .int .u8 (0), .nilFunc, .pointer none, .int .i32 (0), .int .i32 (0)], 48⟩
 (.node (.node (.node .nil 344 ⟨.func #[81] #[2] false, 1, [.nilFunc], 8⟩
 .nil) 345 ⟨.func #[81, 78] #[79, 38] false, 1, [.nilFunc], 8⟩
 .nil) 346 ⟨.func #[81] #[78, 4] false, 1, [.nilFunc], 8⟩
 (.node .nil 347 ⟨.unsafePointer, 1, [.pointer none], 8⟩
 .nil))))))))
set_option maxRecDepth 100000 in
theorem tab_ok : tab.All fun p => Tryz.prog.underlying p.1 = some p.2.d ∧ (Tryz.prog.info? p.1).map (fun i => (i.size, i.zero.map Value.cells, i.bytes)) = some (p.2.size, some p.2.zero.toArray, p.2.bytes) :=
  ⟨⟨⟨⟨⟨⟨⟨⟨⟨trivial, ⟨by kernel_rfl, by kernel_rfl⟩, trivial⟩, ⟨by kernel_rfl, by kernel_rfl⟩, trivial⟩, ⟨by kernel_rfl, by kernel_rfl⟩, ⟨⟨trivial, ⟨by kernel_rfl, by kernel_rfl⟩, trivial⟩, ⟨by kernel_rfl, by kernel_rfl⟩, trivial⟩⟩, ⟨by kernel_rfl, by kernel_rfl⟩, ⟨⟨⟨trivial, ⟨by kernel_rfl, by kernel_rfl⟩, trivial⟩, ⟨by kernel_rfl, by kernel_rfl⟩, trivial⟩, ⟨by kernel_rfl, by kernel_rfl⟩, ⟨trivial, ⟨by kernel_rfl, by kernel_rfl⟩, trivial⟩⟩⟩, ⟨by kernel_rfl, by kernel_rfl⟩, ⟨⟨⟨⟨trivial, ⟨by kernel_rfl, by kernel_rfl⟩, trivial⟩, ⟨by kernel_rfl, by kernel_rfl⟩, trivial⟩, ⟨by kernel_rfl, by kernel_rfl⟩, ⟨⟨trivial, ⟨by kernel_rfl, by kernel_rfl⟩, trivial⟩, ⟨by kernel_rfl, by kernel_rfl⟩, trivial⟩⟩, ⟨by kernel_rfl, by kernel_rfl⟩, ⟨⟨⟨trivial, ⟨by kernel_rfl, by kernel_rfl⟩, trivial⟩, ⟨by kernel_rfl, by kernel_rfl⟩, trivial⟩, ⟨by kernel_rfl, by kernel_rfl⟩, ⟨trivial, ⟨by kernel_rfl, by kernel_rfl⟩, trivial⟩⟩⟩⟩, ⟨by kernel_rfl, by kernel_rfl⟩, ⟨⟨⟨⟨⟨trivial, ⟨by kernel_rfl, by kernel_rfl⟩, trivial⟩, ⟨by kernel_rfl, by kernel_rfl⟩, trivial⟩, ⟨by kernel_rfl, by kernel_rfl⟩, ⟨⟨trivial, ⟨by kernel_rfl, by kernel_rfl⟩, trivial⟩, ⟨by kernel_rfl, by kernel_rfl⟩, trivial⟩⟩, ⟨by kernel_rfl, by kernel_rfl⟩, ⟨⟨⟨trivial, ⟨by kernel_rfl, by kernel_rfl⟩, trivial⟩, ⟨by kernel_rfl, by kernel_rfl⟩, trivial⟩, ⟨by kernel_rfl, by kernel_rfl⟩, ⟨trivial, ⟨by kernel_rfl, by kernel_rfl⟩, trivial⟩⟩⟩, ⟨by kernel_rfl, by kernel_rfl⟩, ⟨⟨⟨⟨trivial, ⟨by kernel_rfl, by kernel_rfl⟩, trivial⟩, ⟨by kernel_rfl, by kernel_rfl⟩, trivial⟩, ⟨by kernel_rfl, by kernel_rfl⟩, ⟨trivial, ⟨by kernel_rfl, by kernel_rfl⟩, trivial⟩⟩, ⟨by kernel_rfl, by kernel_rfl⟩, ⟨⟨⟨trivial, ⟨by kernel_rfl, by kernel_rfl⟩, trivial⟩, ⟨by kernel_rfl, by kernel_rfl⟩, trivial⟩, ⟨by kernel_rfl, by kernel_rfl⟩, ⟨trivial, ⟨by kernel_rfl, by kernel_rfl⟩, trivial⟩⟩⟩⟩⟩, ⟨by kernel_rfl, by kernel_rfl⟩, ⟨⟨⟨⟨⟨⟨trivial, ⟨by kernel_rfl, by kernel_rfl⟩, trivial⟩, ⟨by kernel_rfl, by kernel_rfl⟩, trivial⟩, ⟨by kernel_rfl, by kernel_rfl⟩, ⟨⟨trivial, ⟨by kernel_rfl, by kernel_rfl⟩, trivial⟩, ⟨by kernel_rfl, by kernel_rfl⟩, trivial⟩⟩, ⟨by kernel_rfl, by kernel_rfl⟩, ⟨⟨⟨trivial, ⟨by kernel_rfl, by kernel_rfl⟩, trivial⟩, ⟨by kernel_rfl, by kernel_rfl⟩, trivial⟩, ⟨by kernel_rfl, by kernel_rfl⟩, ⟨trivial, ⟨by kernel_rfl, by kernel_rfl⟩, trivial⟩⟩⟩, ⟨by kernel_rfl, by kernel_rfl⟩, ⟨⟨⟨⟨trivial, ⟨by kernel_rfl, by kernel_rfl⟩, trivial⟩, ⟨by kernel_rfl, by kernel_rfl⟩, trivial⟩, ⟨by kernel_rfl, by kernel_rfl⟩, ⟨trivial, ⟨by kernel_rfl, by kernel_rfl⟩, trivial⟩⟩, ⟨by kernel_rfl, by kernel_rfl⟩, ⟨⟨⟨trivial, ⟨by kernel_rfl, by kernel_rfl⟩, trivial⟩, ⟨by kernel_rfl, by kernel_rfl⟩, trivial⟩, ⟨by kernel_rfl, by kernel_rfl⟩, ⟨trivial, ⟨by kernel_rfl, by kernel_rfl⟩, trivial⟩⟩⟩⟩, ⟨by kernel_rfl, by kernel_rfl⟩, ⟨⟨⟨⟨⟨trivial, ⟨by kernel_rfl, by kernel_rfl⟩, trivial⟩, ⟨by kernel_rfl, by kernel_rfl⟩, trivial⟩, ⟨by kernel_rfl, by kernel_rfl⟩, ⟨⟨trivial, ⟨by kernel_rfl, by kernel_rfl⟩, trivial⟩, ⟨by kernel_rfl, by kernel_rfl⟩, trivial⟩⟩, ⟨by kernel_rfl, by kernel_rfl⟩, ⟨⟨⟨trivial, ⟨by kernel_rfl, by kernel_rfl⟩, trivial⟩, ⟨by kernel_rfl, by kernel_rfl⟩, trivial⟩, ⟨by kernel_rfl, by kernel_rfl⟩, ⟨trivial, ⟨by kernel_rfl, by kernel_rfl⟩, trivial⟩⟩⟩, ⟨by kernel_rfl, by kernel_rfl⟩, ⟨⟨⟨⟨trivial, ⟨by kernel_rfl, by kernel_rfl⟩, trivial⟩, ⟨by kernel_rfl, by kernel_rfl⟩, trivial⟩, ⟨by kernel_rfl, by kernel_rfl⟩, ⟨trivial, ⟨by kernel_rfl, by kernel_rfl⟩, trivial⟩⟩, ⟨by kernel_rfl, by kernel_rfl⟩, ⟨⟨⟨trivial, ⟨by kernel_rfl, by kernel_rfl⟩, trivial⟩, ⟨by kernel_rfl, by kernel_rfl⟩, trivial⟩, ⟨by kernel_rfl, by kernel_rfl⟩, ⟨trivial, ⟨by kernel_rfl, by kernel_rfl⟩, trivial⟩⟩⟩⟩⟩⟩, ⟨by kernel_rfl, by kernel_rfl⟩, ⟨⟨⟨⟨⟨⟨⟨trivial, ⟨by kernel_rfl, by kernel_rfl⟩, trivial⟩, ⟨by kernel_rfl, by kernel_rfl⟩, trivial⟩, ⟨by kernel_rfl, by kernel_rfl⟩, ⟨⟨trivial, ⟨by kernel_rfl, by kernel_rfl⟩, trivial⟩, ⟨by kernel_rfl, by kernel_rfl⟩, trivial⟩⟩, ⟨by kernel_rfl, by kernel_rfl⟩, ⟨⟨⟨trivial, ⟨by kernel_rfl, by kernel_rfl⟩, trivial⟩, ⟨by kernel_rfl, by kernel_rfl⟩, trivial⟩, ⟨by kernel_rfl, by kernel_rfl⟩, ⟨trivial, ⟨by kernel_rfl, by kernel_rfl⟩, trivial⟩⟩⟩, ⟨by kernel_rfl, by kernel_rfl⟩, ⟨⟨⟨⟨trivial, ⟨by kernel_rfl, by kernel_rfl⟩, trivial⟩, ⟨by kernel_rfl, by kernel_rfl⟩, trivial⟩, ⟨by kernel_rfl, by kernel_rfl⟩, ⟨⟨trivial, ⟨by kernel_rfl, by kernel_rfl⟩, trivial⟩, ⟨by kernel_rfl, by kernel_rfl⟩, trivial⟩⟩, ⟨by kernel_rfl, by kernel_rfl⟩, ⟨⟨⟨trivial, ⟨by kernel_rfl, by kernel_rfl⟩, trivial⟩, ⟨by kernel_rfl, by kernel_rfl⟩, trivial⟩, ⟨by kernel_rfl, by kernel_rfl⟩, ⟨trivial, ⟨by kernel_rfl, by kernel_rfl⟩, trivial⟩⟩⟩⟩, ⟨by kernel_rfl, by kernel_rfl⟩, ⟨⟨⟨⟨⟨trivial, ⟨by kernel_rfl, by kernel_rfl⟩, trivial⟩, ⟨by kernel_rfl, by kernel_rfl⟩, trivial⟩, ⟨by kernel_rfl, by kernel_rfl⟩, ⟨⟨trivial, ⟨by kernel_rfl, by kernel_rfl⟩, trivial⟩, ⟨by kernel_rfl, by kernel_rfl⟩, trivial⟩⟩, ⟨by kernel_rfl, by kernel_rfl⟩, ⟨⟨⟨trivial, ⟨by kernel_rfl, by kernel_rfl⟩, trivial⟩, ⟨by kernel_rfl, by kernel_rfl⟩, trivial⟩, ⟨by kernel_rfl, by kernel_rfl⟩, ⟨trivial, ⟨by kernel_rfl, by kernel_rfl⟩, trivial⟩⟩⟩, ⟨by kernel_rfl, by kernel_rfl⟩, ⟨⟨⟨⟨trivial, ⟨by kernel_rfl, by kernel_rfl⟩, trivial⟩, ⟨by kernel_rfl, by kernel_rfl⟩, trivial⟩, ⟨by kernel_rfl, by kernel_rfl⟩, ⟨trivial, ⟨by kernel_rfl, by kernel_rfl⟩, trivial⟩⟩, ⟨by kernel_rfl, by kernel_rfl⟩, ⟨⟨⟨trivial, ⟨by kernel_rfl, by kernel_rfl⟩, trivial⟩, ⟨by kernel_rfl, by kernel_rfl⟩, trivial⟩, ⟨by kernel_rfl, by kernel_rfl⟩, ⟨trivial, ⟨by kernel_rfl, by kernel_rfl⟩, trivial⟩⟩⟩⟩⟩, ⟨by kernel_rfl, by kernel_rfl⟩, ⟨⟨⟨⟨⟨⟨trivial, ⟨by kernel_rfl, by kernel_rfl⟩, trivial⟩, ⟨by kernel_rfl, by kernel_rfl⟩, trivial⟩, ⟨by kernel_rfl, by kernel_rfl⟩, ⟨⟨trivial, ⟨by kernel_rfl, by kernel_rfl⟩, trivial⟩, ⟨by kernel_rfl, by kernel_rfl⟩, trivial⟩⟩, ⟨by kernel_rfl, by kernel_rfl⟩, ⟨⟨⟨trivial, ⟨by kernel_rfl, by kernel_rfl⟩, trivial⟩, ⟨by kernel_rfl, by kernel_rfl⟩, trivial⟩, ⟨by kernel_rfl, by kernel_rfl⟩, ⟨trivial, ⟨by kernel_rfl, by kernel_rfl⟩, trivial⟩⟩⟩, ⟨by kernel_rfl, by kernel_rfl⟩, ⟨⟨⟨⟨trivial, ⟨by kernel_rfl, by kernel_rfl⟩, trivial⟩, ⟨by kernel_rfl, by kernel_rfl⟩, trivial⟩, ⟨by kernel_rfl, by kernel_rfl⟩, ⟨trivial, ⟨by kernel_rfl, by kernel_rfl⟩, trivial⟩⟩, ⟨by kernel_rfl, by kernel_rfl⟩, ⟨⟨⟨trivial, ⟨by kernel_rfl, by kernel_rfl⟩, trivial⟩, ⟨by kernel_rfl, by kernel_rfl⟩, trivial⟩, ⟨by kernel_rfl, by kernel_rfl⟩, ⟨trivial, ⟨by kernel_rfl, by kernel_rfl⟩, trivial⟩⟩⟩⟩, ⟨by kernel_rfl, by kernel_rfl⟩, ⟨⟨⟨⟨⟨trivial, ⟨by kernel_rfl, by kernel_rfl⟩, trivial⟩, ⟨by kernel_rfl, by kernel_rfl⟩, trivial⟩, ⟨by kernel_rfl, by kernel_rfl⟩, ⟨⟨trivial, ⟨by kernel_rfl, by kernel_rfl⟩, trivial⟩, ⟨by kernel_rfl, by kernel_rfl⟩, trivial⟩⟩, ⟨by kernel_rfl, by kernel_rfl⟩, ⟨⟨⟨trivial, ⟨by kernel_rfl, by kernel_rfl⟩, trivial⟩, ⟨by kernel_rfl, by kernel_rfl⟩, trivial⟩, ⟨by kernel_rfl, by kernel_rfl⟩, ⟨trivial, ⟨by kernel_rfl, by kernel_rfl⟩, trivial⟩⟩⟩, ⟨by kernel_rfl, by kernel_rfl⟩, ⟨⟨⟨⟨trivial, ⟨by kernel_rfl, by kernel_rfl⟩, trivial⟩, ⟨by kernel_rfl, by kernel_rfl⟩, trivial⟩, ⟨by kernel_rfl, by kernel_rfl⟩, ⟨trivial, ⟨by kernel_rfl, by kernel_rfl⟩, trivial⟩⟩, ⟨by kernel_rfl, by kernel_rfl⟩, ⟨⟨⟨trivial, ⟨by kernel_rfl, by kernel_rfl⟩, trivial⟩, ⟨by kernel_rfl, by kernel_rfl⟩, trivial⟩, ⟨by kernel_rfl, by kernel_rfl⟩, ⟨trivial, ⟨by kernel_rfl, by kernel_rfl⟩, trivial⟩⟩⟩⟩⟩⟩⟩, ⟨by kernel_rfl, by kernel_rfl⟩, ⟨⟨⟨⟨⟨⟨⟨⟨trivial, ⟨by kernel_rfl, by kernel_rfl⟩, trivial⟩, ⟨by kernel_rfl, by kernel_rfl⟩, trivial⟩, ⟨by kernel_rfl, by kernel_rfl⟩, ⟨⟨trivial, ⟨by kernel_rfl, by kernel_rfl⟩, trivial⟩, ⟨by kernel_rfl, by kernel_rfl⟩, trivial⟩⟩, ⟨by kernel_rfl, by kernel_rfl⟩, ⟨⟨⟨trivial, ⟨by kernel_rfl, by kernel_rfl⟩, trivial⟩, ⟨by kernel_rfl, by kernel_rfl⟩, trivial⟩, ⟨by kernel_rfl, by kernel_rfl⟩, ⟨trivial, ⟨by kernel_rfl, by kernel_rfl⟩, trivial⟩⟩⟩, ⟨by kernel_rfl, by kernel_rfl⟩, ⟨⟨⟨⟨trivial, ⟨by kernel_rfl, by kernel_rfl⟩, trivial⟩, ⟨by kernel_rfl, by kernel_rfl⟩, trivial⟩, ⟨by kernel_rfl, by kernel_rfl⟩, ⟨⟨trivial, ⟨by kernel_rfl, by kernel_rfl⟩, trivial⟩, ⟨by kernel_rfl, by kernel_rfl⟩, trivial⟩⟩, ⟨by kernel_rfl, by kernel_rfl⟩, ⟨⟨⟨trivial, ⟨by kernel_rfl, by kernel_rfl⟩, trivial⟩, ⟨by kernel_rfl, by kernel_rfl⟩, trivial⟩, ⟨by kernel_rfl, by kernel_rfl⟩, ⟨trivial, ⟨by kernel_rfl, by kernel_rfl⟩, trivial⟩⟩⟩⟩, ⟨by kernel_rfl, by kernel_rfl⟩, ⟨⟨⟨⟨⟨trivial, ⟨by kernel_rfl, by kernel_rfl⟩, trivial⟩, ⟨by kernel_rfl, by kernel_rfl⟩, trivial⟩, ⟨by kernel_rfl, by kernel_rfl⟩, ⟨⟨trivial, ⟨by kernel_rfl, by kernel_rfl⟩, trivial⟩, ⟨by kernel_rfl, by kernel_rfl⟩, trivial⟩⟩, ⟨by kernel_rfl, by kernel_rfl⟩, ⟨⟨⟨trivial, ⟨by kernel_rfl, by kernel_rfl⟩, trivial⟩, ⟨by kernel_rfl, by kernel_rfl⟩, trivial⟩, ⟨by kernel_rfl, by kernel_rfl⟩, ⟨trivial, ⟨by kernel_rfl, by kernel_rfl⟩, trivial⟩⟩⟩, ⟨by kernel_rfl, by kernel_rfl⟩, ⟨⟨⟨⟨trivial, ⟨by kernel_rfl, by kernel_rfl⟩, trivial⟩, ⟨by kernel_rfl, by kernel_rfl⟩, trivial⟩, ⟨by kernel_rfl, by kernel_rfl⟩, ⟨trivial, ⟨by kernel_rfl, by kernel_rfl⟩, trivial⟩⟩, ⟨by kernel_rfl, by kernel_rfl⟩, ⟨⟨⟨trivial, ⟨by kernel_rfl, by kernel_rfl⟩, trivial⟩, ⟨by kernel_rfl, by kernel_rfl⟩, trivial⟩, ⟨by kernel_rfl, by kernel_rfl⟩, ⟨trivial, ⟨by kernel_rfl, by kernel_rfl⟩, trivial⟩⟩⟩⟩⟩, ⟨by kernel_rfl, by kernel_rfl⟩, ⟨⟨⟨⟨⟨⟨trivial, ⟨by kernel_rfl, by kernel_rfl⟩, trivial⟩, ⟨by kernel_rfl, by kernel_rfl⟩, trivial⟩, ⟨by kernel_rfl, by kernel_rfl⟩, ⟨⟨trivial, ⟨by kernel_rfl, by kernel_rfl⟩, trivial⟩, ⟨by kernel_rfl, by kernel_rfl⟩, trivial⟩⟩, ⟨by kernel_rfl, by kernel_rfl⟩, ⟨⟨⟨trivial, ⟨by kernel_rfl, by kernel_rfl⟩, trivial⟩, ⟨by kernel_rfl, by kernel_rfl⟩, trivial⟩, ⟨by kernel_rfl, by kernel_rfl⟩, ⟨trivial, ⟨by kernel_rfl, by kernel_rfl⟩, trivial⟩⟩⟩, ⟨by kernel_rfl, by kernel_rfl⟩, ⟨⟨⟨⟨trivial, ⟨by kernel_rfl, by kernel_rfl⟩, trivial⟩, ⟨by kernel_rfl, by kernel_rfl⟩, trivial⟩, ⟨by kernel_rfl, by kernel_rfl⟩, ⟨trivial, ⟨by kernel_rfl, by kernel_rfl⟩, trivial⟩⟩, ⟨by kernel_rfl, by kernel_rfl⟩, ⟨⟨⟨trivial, ⟨by kernel_rfl, by kernel_rfl⟩, trivial⟩, ⟨by kernel_rfl, by kernel_rfl⟩, trivial⟩, ⟨by kernel_rfl, by kernel_rfl⟩, ⟨trivial, ⟨by kernel_rfl, by kernel_rfl⟩, trivial⟩⟩⟩⟩, ⟨by kernel_rfl, by kernel_rfl⟩, ⟨⟨⟨⟨⟨trivial, ⟨by kernel_rfl, by kernel_rfl⟩, trivial⟩, ⟨by kernel_rfl, by kernel_rfl⟩, trivial⟩, ⟨by kernel_rfl, by kernel_rfl⟩, ⟨⟨trivial, ⟨by kernel_rfl, by kernel_rfl⟩, trivial⟩, ⟨by kernel_rfl, by kernel_rfl⟩, trivial⟩⟩, ⟨by kernel_rfl, by kernel_rfl⟩, ⟨⟨⟨trivial, ⟨by kernel_rfl, by kernel_rfl⟩, trivial⟩, ⟨by kernel_rfl, by kernel_rfl⟩, trivial⟩, ⟨by kernel_rfl, by kernel_rfl⟩, ⟨trivial, ⟨by kernel_rfl, by kernel_rfl⟩, trivial⟩⟩⟩, ⟨by kernel_rfl, by kernel_rfl⟩, ⟨⟨⟨⟨trivial, ⟨by kernel_rfl, by kernel_rfl⟩, trivial⟩, ⟨by kernel_rfl, by kernel_rfl⟩, trivial⟩, ⟨by kernel_rfl, by kernel_rfl⟩, ⟨trivial, ⟨by kernel_rfl, by kernel_rfl⟩, trivial⟩⟩, ⟨by kernel_rfl, by kernel_rfl⟩, ⟨⟨⟨trivial, ⟨by kernel_rfl, by kernel_rfl⟩, trivial⟩, ⟨by kernel_rfl, by kernel_rfl⟩, trivial⟩, ⟨by kernel_rfl, by kernel_rfl⟩, ⟨trivial, ⟨by kernel_rfl, by kernel_rfl⟩, trivial⟩⟩⟩⟩⟩⟩, ⟨by kernel_rfl, by kernel_rfl⟩, ⟨⟨⟨⟨⟨⟨⟨trivial, ⟨by kernel_rfl, by kernel_rfl⟩, trivial⟩, ⟨by kernel_rfl, by kernel_rfl⟩, trivial⟩, ⟨by kernel_rfl, by kernel_rfl⟩, ⟨⟨trivial, ⟨by kernel_rfl, by kernel_rfl⟩, trivial⟩, ⟨by kernel_rfl, by kernel_rfl⟩, trivial⟩⟩, ⟨by kernel_rfl, by kernel_rfl⟩, ⟨⟨⟨trivial, ⟨by kernel_rfl, by kernel_rfl⟩, trivial⟩, ⟨by kernel_rfl, by kernel_rfl⟩, trivial⟩, ⟨by kernel_rfl, by kernel_rfl⟩, ⟨trivial, ⟨by kernel_rfl, by kernel_rfl⟩, trivial⟩⟩⟩, ⟨by kernel_rfl, by kernel_rfl⟩, ⟨⟨⟨⟨trivial, ⟨by kernel_rfl, by kernel_rfl⟩, trivial⟩, ⟨by kernel_rfl, by kernel_rfl⟩, trivial⟩, ⟨by kernel_rfl, by kernel_rfl⟩, ⟨trivial, ⟨by kernel_rfl, by kernel_rfl⟩, trivial⟩⟩, ⟨by kernel_rfl, by kernel_rfl⟩, ⟨⟨⟨trivial, ⟨by kernel_rfl, by kernel_rfl⟩, trivial⟩, ⟨by kernel_rfl, by kernel_rfl⟩, trivial⟩, ⟨by kernel_rfl, by kernel_rfl⟩, ⟨trivial, ⟨by kernel_rfl, by kernel_rfl⟩, trivial⟩⟩⟩⟩, ⟨by kernel_rfl, by kernel_rfl⟩, ⟨⟨⟨⟨⟨trivial, ⟨by kernel_rfl, by kernel_rfl⟩, trivial⟩, ⟨by kernel_rfl, by kernel_rfl⟩, trivial⟩, ⟨by kernel_rfl, by kernel_rfl⟩, ⟨⟨trivial, ⟨by kernel_rfl, by kernel_rfl⟩, trivial⟩, ⟨by kernel_rfl, by kernel_rfl⟩, trivial⟩⟩, ⟨by kernel_rfl, by kernel_rfl⟩, ⟨⟨⟨trivial, ⟨by kernel_rfl, by kernel_rfl⟩, trivial⟩, ⟨by kernel_rfl, by kernel_rfl⟩, trivial⟩, ⟨by kernel_rfl, by kernel_rfl⟩, ⟨trivial, ⟨by kernel_rfl, by kernel_rfl⟩, trivial⟩⟩⟩, ⟨by kernel_rfl, by kernel_rfl⟩, ⟨⟨⟨⟨trivial, ⟨by kernel_rfl, by kernel_rfl⟩, trivial⟩, ⟨by kernel_rfl, by kernel_rfl⟩, trivial⟩, ⟨by kernel_rfl, by kernel_rfl⟩, ⟨trivial, ⟨by kernel_rfl, by kernel_rfl⟩, trivial⟩⟩, ⟨by kernel_rfl, by kernel_rfl⟩, ⟨⟨⟨trivial, ⟨by kernel_rfl, by kernel_rfl⟩, trivial⟩, ⟨by kernel_rfl, by kernel_rfl⟩, trivial⟩, ⟨by kernel_rfl, by kernel_rfl⟩, ⟨trivial, ⟨by kernel_rfl, by kernel_rfl⟩, trivial⟩⟩⟩⟩⟩, ⟨by kernel_rfl, by kernel_rfl⟩, ⟨⟨⟨⟨⟨⟨trivial, ⟨by kernel_rfl, by kernel_rfl⟩, trivial⟩, ⟨by kernel_rfl, by kernel_rfl⟩, trivial⟩, ⟨by kernel_rfl, by kernel_rfl⟩, ⟨⟨trivial, ⟨by kernel_rfl, by kernel_rfl⟩, trivial⟩, ⟨by kernel_rfl, by kernel_rfl⟩, trivial⟩⟩, ⟨by kernel_rfl, by kernel_rfl⟩, ⟨⟨⟨trivial, ⟨by kernel_rfl, by kernel_rfl⟩, trivial⟩, ⟨by kernel_rfl, by kernel_rfl⟩, trivial⟩, ⟨by kernel_rfl, by kernel_rfl⟩, ⟨trivial, ⟨by kernel_rfl, by kernel_rfl⟩, trivial⟩⟩⟩, ⟨by kernel_rfl, by kernel_rfl⟩, ⟨⟨⟨⟨trivial, ⟨by kernel_rfl, by kernel_rfl⟩, trivial⟩, ⟨by kernel_rfl, by kernel_rfl⟩, trivial⟩, ⟨by kernel_rfl, by kernel_rfl⟩, ⟨trivial, ⟨by kernel_rfl, by kernel_rfl⟩, trivial⟩⟩, ⟨by kernel_rfl, by kernel_rfl⟩, ⟨⟨⟨trivial, ⟨by kernel_rfl, by kernel_rfl⟩, trivial⟩, ⟨by kernel_rfl, by kernel_rfl⟩, trivial⟩, ⟨by kernel_rfl, by kernel_rfl⟩, ⟨trivial, ⟨by kernel_rfl, by kernel_rfl⟩, trivial⟩⟩⟩⟩, ⟨by kernel_rfl, by kernel_rfl⟩, ⟨⟨⟨⟨⟨trivial, ⟨by kernel_rfl, by kernel_rfl⟩, trivial⟩, ⟨by kernel_rfl, by kernel_rfl⟩, trivial⟩, ⟨by kernel_rfl, by kernel_rfl⟩, ⟨⟨trivial, ⟨by kernel_rfl, by kernel_rfl⟩, trivial⟩, ⟨by kernel_rfl, by kernel_rfl⟩, trivial⟩⟩, ⟨by kernel_rfl, by kernel_rfl⟩, ⟨⟨⟨trivial, ⟨by kernel_rfl, by kernel_rfl⟩, trivial⟩, ⟨by kernel_rfl, by kernel_rfl⟩, trivial⟩, ⟨by kernel_rfl, by kernel_rfl⟩, ⟨trivial, ⟨by kernel_rfl, by kernel_rfl⟩, trivial⟩⟩⟩, ⟨by kernel_rfl, by kernel_rfl⟩, ⟨⟨⟨⟨trivial, ⟨by kernel_rfl, by kernel_rfl⟩, trivial⟩, ⟨by kernel_rfl, by kernel_rfl⟩, trivial⟩, ⟨by kernel_rfl, by kernel_rfl⟩, ⟨trivial, ⟨by kernel_rfl, by kernel_rfl⟩, trivial⟩⟩, ⟨by kernel_rfl, by kernel_rfl⟩, ⟨⟨⟨trivial, ⟨by kernel_rfl, by kernel_rfl⟩, trivial⟩, ⟨by kernel_rfl, by kernel_rfl⟩, trivial⟩, ⟨by kernel_rfl, by kernel_rfl⟩, ⟨trivial, ⟨by kernel_rfl, by kernel_rfl⟩, trivial⟩⟩⟩⟩⟩⟩⟩⟩
def sg : Sig Tryz.prog := ⟨tab, tab_ok⟩
theorem ent8 : Ent Tryz.prog 8 := Ent.mk Tryz.func8 (by kernel_rfl) (by kernel_rfl)
theorem ent10 : Ent Tryz.prog 10 := Ent.mk Tryz.func10 (by kernel_rfl) (by kernel_rfl)
theorem ent11 : Ent Tryz.prog 11 := Ent.mk Tryz.func11 (by kernel_rfl) (by kernel_rfl)
theorem ent12 : Ent Tryz.prog 12 := Ent.mk Tryz.func12 (by kernel_rfl) (by kernel_rfl)
theorem ent13 : Ent Tryz.prog 13 := Ent.mk Tryz.func13 (by kernel_rfl) (by kernel_rfl)
theorem ent14 : Ent Tryz.prog 14 := Ent.mk Tryz.func14 (by kernel_rfl) (by kernel_rfl)
theorem ent15 : Ent Tryz.prog 15 := Ent.mk Tryz.func15 (by kernel_rfl) (by kernel_rfl)
theorem ent16 : Ent Tryz.prog 16 := Ent.mk Tryz.func16 (by kernel_rfl) (by kernel_rfl)
theorem ent18 : Ent Tryz.prog 18 := Ent.mk Tryz.func18 (by kernel_rfl) (by kernel_rfl)
theorem ent19 : Ent Tryz.prog 19 := Ent.mk Tryz.func19 (by kernel_rfl) (by kernel_rfl)
theorem ent20 : Ent Tryz.prog 20 := Ent.mk Tryz.func20 (by kernel_rfl) (by kernel_rfl)
theorem ent21 : Ent Tryz.prog 21 := Ent.mk Tryz.func21 (by kernel_rfl) (by kernel_rfl)
theorem ent32 : Ent Tryz.prog 32 := Ent.mk Tryz.func32 (by kernel_rfl) (by kernel_rfl)
theorem ent33 : Ent Tryz.prog 33 := Ent.mk Tryz.func33 (by kernel_rfl) (by kernel_rfl)
theorem ent34 : Ent Tryz.prog 34 := Ent.mk Tryz.func34 (by kernel_rfl) (by kernel_rfl)
theorem ent35 : Ent Tryz.prog 35 := Ent.mk Tryz.func35 (by kernel_rfl) (by kernel_rfl)
theorem ent36 : Ent Tryz.prog 36 := Ent.mk Tryz.func36 (by kernel_rfl) (by kernel_rfl)
theorem ent37 : Ent Tryz.prog 37 := Ent.mk Tryz.func37 (by kernel_rfl) (by kernel_rfl)
theorem ent38 : Ent Tryz.prog 38 := Ent.mk Tryz.func38 (by kernel_rfl) (by kernel_rfl)
theorem ent39 : Ent Tryz.prog 39 := Ent.mk Tryz.func39 (by kernel_rfl) (by kernel_rfl)
theorem ent40 : Ent Tryz.prog 40 := Ent.mk Tryz.func40 (by kernel_rfl) (by kernel_rfl)
theorem ent41 : Ent Tryz.prog 41 := Ent.mk Tryz.func41 (by kernel_rfl) (by kernel_rfl)
theorem ent42 : Ent Tryz.prog 42 := Ent.mk Tryz.func42 (by kernel_rfl) (by kernel_rfl)
theorem ent43 : Ent Tryz.prog 43 := Ent.mk Tryz.func43 (by kernel_rfl) (by kernel_rfl)
theorem ent44 : Ent Tryz.prog 44 := Ent.mk Tryz.func44 (by kernel_rfl) (by kernel_rfl)
theorem ent45 : Ent Tryz.prog 45 := Ent.mk Tryz.func45 (by kernel_rfl) (by kernel_rfl)
theorem ent46 : Ent Tryz.prog 46 := Ent.mk Tryz.func46 (by kernel_rfl) (by kernel_rfl)
theorem ent47 : Ent Tryz.prog 47 := Ent.mk Tryz.func47 (by kernel_rfl) (by kernel_rfl)
theorem ent48 : Ent Tryz.prog 48 := Ent.mk Tryz.func48 (by kernel_rfl) (by kernel_rfl)
theorem ent49 : Ent Tryz.prog 49 := Ent.mk Tryz.func49 (by kernel_rfl) (by kernel_rfl)
theorem ent50 : Ent Tryz.prog 50 := Ent.mk Tryz.func50 (by kernel_rfl) (by kernel_rfl)
theorem ent51 : Ent Tryz.prog 51 := Ent.mk Tryz.func51 (by kernel_rfl) (by kernel_rfl)
theorem ent52 : Ent Tryz.prog 52 := Ent.mk Tryz.func52 (by kernel_rfl) (by kernel_rfl)
theorem ent53 : Ent Tryz.prog 53 := Ent.mk Tryz.func53 (by kernel_rfl) (by kernel_rfl)
theorem ent54 : Ent Tryz.prog 54 := Ent.mk Tryz.func54 (by kernel_rfl) (by kernel_rfl)
theorem ent55 : Ent Tryz.prog 55 := Ent.mk Tryz.func55 (by kernel_rfl) (by kernel_rfl)
theorem ent56 : Ent Tryz.prog 56 := Ent.mk Tryz.func56 (by kernel_rfl) (by kernel_rfl)
theorem ent57 : Ent Tryz.prog 57 := Ent.mk Tryz.func57 (by kernel_rfl) (by kernel_rfl)
theorem ent58 : Ent Tryz.prog 58 := Ent.mk Tryz.func58 (by kernel_rfl) (by kernel_rfl)
theorem ent59 : Ent Tryz.prog 59 := Ent.mk Tryz.func59 (by kernel_rfl) (by kernel_rfl)
theorem ent60 : Ent Tryz.prog 60 := Ent.mk Tryz.func60 (by kernel_rfl) (by kernel_rfl)
theorem ent61 : Ent Tryz.prog 61 := Ent.mk Tryz.func61 (by kernel_rfl) (by kernel_rfl)
theorem ent62 : Ent Tryz.prog 62 := Ent.mk Tryz.func62 (by kernel_rfl) (by kernel_rfl)
theorem ent63 : Ent Tryz.prog 63 := Ent.mk Tryz.func63 (by kernel_rfl) (by kernel_rfl)
theorem ent83 : Ent Tryz.prog 83 := Ent.mk Tryz.func83 (by kernel_rfl) (by kernel_rfl)
theorem ent84 : Ent Tryz.prog 84 := Ent.mk Tryz.func84 (by kernel_rfl) (by kernel_rfl)
theorem ent85 : Ent Tryz.prog 85 := Ent.mk Tryz.func85 (by kernel_rfl) (by kernel_rfl)
theorem ent86 : Ent Tryz.prog 86 := Ent.mk Tryz.func86 (by kernel_rfl) (by kernel_rfl)
theorem ent87 : Ent Tryz.prog 87 := Ent.mk Tryz.func87 (by kernel_rfl) (by kernel_rfl)
theorem ent88 : Ent Tryz.prog 88 := Ent.mk Tryz.func88 (by kernel_rfl) (by kernel_rfl)
theorem ent89 : Ent Tryz.prog 89 := Ent.mk Tryz.func89 (by kernel_rfl) (by kernel_rfl)
theorem ent90 : Ent Tryz.prog 90 := Ent.mk Tryz.func90 (by kernel_rfl) (by kernel_rfl)
theorem ent91 : Ent Tryz.prog 91 := Ent.mk Tryz.func91 (by kernel_rfl) (by kernel_rfl)
theorem ent92 : Ent Tryz.prog 92 := Ent.mk Tryz.func92 (by kernel_rfl) (by kernel_rfl)
theorem ent93 : Ent Tryz.prog 93 := Ent.mk Tryz.func93 (by kernel_rfl) (by kernel_rfl)
theorem ent94 : Ent Tryz.prog 94 := Ent.mk Tryz.func94 (by kernel_rfl) (by kernel_rfl)
theorem ent95 : Ent Tryz.prog 95 := Ent.mk Tryz.func95 (by kernel_rfl) (by kernel_rfl)
theorem ent96 : Ent Tryz.prog 96 := Ent.mk Tryz.func96 (by kernel_rfl) (by kernel_rfl)
theorem ent97 : Ent Tryz.prog 97 := Ent.mk Tryz.func97 (by kernel_rfl) (by kernel_rfl)
theorem ent98 : Ent Tryz.prog 98 := Ent.mk Tryz.func98 (by kernel_rfl) (by kernel_rfl)
theorem ent99 : Ent Tryz.prog 99 := Ent.mk Tryz.func99 (by kernel_rfl) (by kernel_rfl)
theorem ent100 : Ent Tryz.prog 100 := Ent.mk Tryz.func100 (by kernel_rfl) (by kernel_rfl)
theorem ent101 : Ent Tryz.prog 101 := Ent.mk Tryz.func101 (by kernel_rfl) (by kernel_rfl)
theorem ent102 : Ent Tryz.prog 102 := Ent.mk Tryz.func102 (by kernel_rfl) (by kernel_rfl)
theorem ent103 : Ent Tryz.prog 103 := Ent.mk Tryz.func103 (by kernel_rfl) (by kernel_rfl)
theorem ent104 : Ent Tryz.prog 104 := Ent.mk Tryz.func104 (by kernel_rfl) (by kernel_rfl)
theorem ent105 : Ent Tryz.prog 105 := Ent.mk Tryz.func105 (by kernel_rfl) (by kernel_rfl)
theorem ent106 : Ent Tryz.prog 106 := Ent.mk Tryz.func106 (by kernel_rfl) (by kernel_rfl)
theorem ent107 : Ent Tryz.prog 107 := Ent.mk Tryz.func107 (by kernel_rfl) (by kernel_rfl)
theorem ent108 : Ent Tryz.prog 108 := Ent.mk Tryz.func108 (by kernel_rfl) (by kernel_rfl)
theorem ent109 : Ent Tryz.prog 109 := Ent.mk Tryz.func109 (by kernel_rfl) (by kernel_rfl)
theorem ent110 : Ent Tryz.prog 110 := Ent.mk Tryz.func110 (by kernel_rfl) (by kernel_rfl)
theorem ent111 : Ent Tryz.prog 111 := Ent.mk Tryz.func111 (by kernel_rfl) (by kernel_rfl)
theorem ent112 : Ent Tryz.prog 112 := Ent.mk Tryz.func112 (by kernel_rfl) (by kernel_rfl)
theorem ent113 : Ent Tryz.prog 113 := Ent.mk Tryz.func113 (by kernel_rfl) (by kernel_rfl)
theorem ent114 : Ent Tryz.prog 114 := Ent.mk Tryz.func114 (by kernel_rfl) (by kernel_rfl)
theorem ent115 : Ent Tryz.prog 115 := Ent.mk Tryz.func115 (by kernel_rfl) (by kernel_rfl)
theorem ent116 : Ent Tryz.prog 116 := Ent.mk Tryz.func116 (by kernel_rfl) (by kernel_rfl)
theorem ent117 : Ent Tryz.prog 117 := Ent.mk Tryz.func117 (by kernel_rfl) (by kernel_rfl)
theorem ent118 : Ent Tryz.prog 118 := Ent.mk Tryz.func118 (by kernel_rfl) (by kernel_rfl)
theorem ent119 : Ent Tryz.prog 119 := Ent.mk Tryz.func119 (by kernel_rfl) (by kernel_rfl)
theorem ent120 : Ent Tryz.prog 120 := Ent.mk Tryz.func120 (by kernel_rfl) (by kernel_rfl)
theorem ent121 : Ent Tryz.prog 121 := Ent.mk Tryz.func121 (by kernel_rfl) (by kernel_rfl)
theorem ent122 : Ent Tryz.prog 122 := Ent.mk Tryz.func122 (by kernel_rfl) (by kernel_rfl)
theorem ent123 : Ent Tryz.prog 123 := Ent.mk Tryz.func123 (by kernel_rfl) (by kernel_rfl)
theorem ent124 : Ent Tryz.prog 124 := Ent.mk Tryz.func124 (by kernel_rfl) (by kernel_rfl)
theorem ent125 : Ent Tryz.prog 125 := Ent.mk Tryz.func125 (by kernel_rfl) (by kernel_rfl)
theorem ent126 : Ent Tryz.prog 126 := Ent.mk Tryz.func126 (by kernel_rfl) (by kernel_rfl)
theorem ent127 : Ent Tryz.prog 127 := Ent.mk Tryz.func127 (by kernel_rfl) (by kernel_rfl)
theorem ent128 : Ent Tryz.prog 128 := Ent.mk Tryz.func128 (by kernel_rfl) (by kernel_rfl)
theorem ent129 : Ent Tryz.prog 129 := Ent.mk Tryz.func129 (by kernel_rfl) (by kernel_rfl)
theorem ent130 : Ent Tryz.prog 130 := Ent.mk Tryz.func130 (by kernel_rfl) (by kernel_rfl)
theorem ent131 : Ent Tryz.prog 131 := Ent.mk Tryz.func131 (by kernel_rfl) (by kernel_rfl)
theorem ent132 : Ent Tryz.prog 132 := Ent.mk Tryz.func132 (by kernel_rfl) (by kernel_rfl)
theorem ent133 : Ent Tryz.prog 133 := Ent.mk Tryz.func133 (by kernel_rfl) (by kernel_rfl)
theorem ent134 : Ent Tryz.prog 134 := Ent.mk Tryz.func134 (by kernel_rfl) (by kernel_rfl)
theorem ent135 : Ent Tryz.prog 135 := Ent.mk Tryz.func135 (by kernel_rfl) (by kernel_rfl)
theorem ent136 : Ent Tryz.prog 136 := Ent.mk Tryz.func136 (by kernel_rfl) (by kernel_rfl)
theorem ent137 : Ent Tryz.prog 137 := Ent.mk Tryz.func137 (by kernel_rfl) (by kernel_rfl)
theorem ent138 : Ent Tryz.prog 138 := Ent.mk Tryz.func138 (by kernel_rfl) (by kernel_rfl)
theorem ent139 : Ent Tryz.prog 139 := Ent.mk Tryz.func139 (by kernel_rfl) (by kernel_rfl)
theorem ent140 : Ent Tryz.prog 140 := Ent.mk Tryz.func140 (by kernel_rfl) (by kernel_rfl)
theorem ent141 : Ent Tryz.prog 141 := Ent.mk Tryz.func141 (by kernel_rfl) (by kernel_rfl)
theorem ent142 : Ent Tryz.prog 142 := Ent.mk Tryz.func142 (by kernel_rfl) (by kernel_rfl)
theorem ent143 : Ent Tryz.prog 143 := Ent.mk Tryz.func143 (by kernel_rfl) (by kernel_rfl)
theorem ent144 : Ent Tryz.prog 144 := Ent.mk Tryz.func144 (by kernel_rfl) (by kernel_rfl)
theorem ent145 : Ent Tryz.prog 145 := Ent.mk Tryz.func145 (by kernel_rfl) (by kernel_rfl)
theorem ent168 : Ent Tryz.prog 168 := Ent.mk Tryz.func168 (by kernel_rfl) (by kernel_rfl)
theorem ent169 : Ent Tryz.prog 169 := Ent.mk Tryz.func169 (by kernel_rfl) (by kernel_rfl)
theorem ent170 : Ent Tryz.prog 170 := Ent.mk Tryz.func170 (by kernel_rfl) (by kernel_rfl)
theorem ent171 : Ent Tryz.prog 171 := Ent.mk Tryz.func171 (by kernel_rfl) (by kernel_rfl)
theorem ent172 : Ent Tryz.prog 172 := Ent.mk Tryz.func172 (by kernel_rfl) (by kernel_rfl)
theorem ent173 : Ent Tryz.prog 173 := Ent.mk Tryz.func173 (by kernel_rfl) (by kernel_rfl)
theorem ent174 : Ent Tryz.prog 174 := Ent.mk Tryz.func174 (by kernel_rfl) (by kernel_rfl)
theorem ent175 : Ent Tryz.prog 175 := Ent.mk Tryz.func175 (by kernel_rfl) (by kernel_rfl)
theorem ent176 : Ent Tryz.prog 176 := Ent.mk Tryz.func176 (by kernel_rfl) (by kernel_rfl)
theorem ent177 : Ent Tryz.prog 177 := Ent.mk Tryz.func177 (by kernel_rfl) (by kernel_rfl)
theorem ent178 : Ent Tryz.prog 178 := Ent.mk Tryz.func178 (by kernel_rfl) (by kernel_rfl)
theorem ent179 : Ent Tryz.prog 179 := Ent.mk Tryz.func179 (by kernel_rfl) (by kernel_rfl)
theorem ent180 : Ent Tryz.prog 180 := Ent.mk Tryz.func180 (by kernel_rfl) (by kernel_rfl)
theorem ent181 : Ent Tryz.prog 181 := Ent.mk Tryz.func181 (by kernel_rfl) (by kernel_rfl)
theorem ent182 : Ent Tryz.prog 182 := Ent.mk Tryz.func182 (by kernel_rfl) (by kernel_rfl)
theorem ent183 : Ent Tryz.prog 183 := Ent.mk Tryz.func183 (by kernel_rfl) (by kernel_rfl)
theorem ent184 : Ent Tryz.prog 184 := Ent.mk Tryz.func184 (by kernel_rfl) (by kernel_rfl)
theorem ent185 : Ent Tryz.prog 185 := Ent.mk Tryz.func185 (by kernel_rfl) (by kernel_rfl)
theorem ent186 : Ent Tryz.prog 186 := Ent.mk Tryz.func186 (by kernel_rfl) (by kernel_rfl)
theorem ent187 : Ent Tryz.prog 187 := Ent.mk Tryz.func187 (by kernel_rfl) (by kernel_rfl)
theorem ent188 : Ent Tryz.prog 188 := Ent.mk Tryz.func188 (by kernel_rfl) (by kernel_rfl)
theorem ent189 : Ent Tryz.prog 189 := Ent.mk Tryz.func189 (by kernel_rfl) (by kernel_rfl)
theorem ent190 : Ent Tryz.prog 190 := Ent.mk Tryz.func190 (by kernel_rfl) (by kernel_rfl)
theorem ent191 : Ent Tryz.prog 191 := Ent.mk Tryz.func191 (by kernel_rfl) (by kernel_rfl)
theorem ent206 : Ent Tryz.prog 206 := Ent.mk Tryz.func206 (by kernel_rfl) (by kernel_rfl)
theorem ent207 : Ent Tryz.prog 207 := Ent.mk Tryz.func207 (by kernel_rfl) (by kernel_rfl)
theorem ent208 : Ent Tryz.prog 208 := Ent.mk Tryz.func208 (by kernel_rfl) (by kernel_rfl)
theorem ent209 : Ent Tryz.prog 209 := Ent.mk Tryz.func209 (by kernel_rfl) (by kernel_rfl)
theorem ent210 : Ent Tryz.prog 210 := Ent.mk Tryz.func210 (by kernel_rfl) (by kernel_rfl)
theorem ent211 : Ent Tryz.prog 211 := Ent.mk Tryz.func211 (by kernel_rfl) (by kernel_rfl)
theorem ent212 : Ent Tryz.prog 212 := Ent.mk Tryz.func212 (by kernel_rfl) (by kernel_rfl)
theorem ent213 : Ent Tryz.prog 213 := Ent.mk Tryz.func213 (by kernel_rfl) (by kernel_rfl)
theorem ent214 : Ent Tryz.prog 214 := Ent.mk Tryz.func214 (by kernel_rfl) (by kernel_rfl)
theorem ent215 : Ent Tryz.prog 215 := Ent.mk Tryz.func215 (by kernel_rfl) (by kernel_rfl)
theorem ent216 : Ent Tryz.prog 216 := Ent.mk Tryz.func216 (by kernel_rfl) (by kernel_rfl)
theorem ent217 : Ent Tryz.prog 217 := Ent.mk Tryz.func217 (by kernel_rfl) (by kernel_rfl)
theorem ent220 : Ent Tryz.prog 220 := Ent.mk Tryz.func220 (by kernel_rfl) (by kernel_rfl)
theorem ent221 : Ent Tryz.prog 221 := Ent.mk Tryz.func221 (by kernel_rfl) (by kernel_rfl)
theorem ent222 : Ent Tryz.prog 222 := Ent.mk Tryz.func222 (by kernel_rfl) (by kernel_rfl)
theorem ent223 : Ent Tryz.prog 223 := Ent.mk Tryz.func223 (by kernel_rfl) (by kernel_rfl)
theorem ent224 : Ent Tryz.prog 224 := Ent.mk Tryz.func224 (by kernel_rfl) (by kernel_rfl)
theorem ent225 : Ent Tryz.prog 225 := Ent.mk Tryz.func225 (by kernel_rfl) (by kernel_rfl)
theorem ent231 : Ent Tryz.prog 231 := Ent.mk Tryz.func231 (by kernel_rfl) (by kernel_rfl)
theorem ent232 : Ent Tryz.prog 232 := Ent.mk Tryz.func232 (by kernel_rfl) (by kernel_rfl)
theorem ent233 : Ent Tryz.prog 233 := Ent.mk Tryz.func233 (by kernel_rfl) (by kernel_rfl)
theorem ent234 : Ent Tryz.prog 234 := Ent.mk Tryz.func234 (by kernel_rfl) (by kernel_rfl)
theorem ent235 : Ent Tryz.prog 235 := Ent.mk Tryz.func235 (by kernel_rfl) (by kernel_rfl)
theorem ent236 : Ent Tryz.prog 236 := Ent.mk Tryz.func236 (by kernel_rfl) (by kernel_rfl)
theorem ent237 : Ent Tryz.prog 237 := Ent.mk Tryz.func237 (by kernel_rfl) (by kernel_rfl)
theorem ent238 : Ent Tryz.prog 238 := Ent.mk Tryz.func238 (by kernel_rfl) (by kernel_rfl)
theorem ent239 : Ent Tryz.prog 239 := Ent.mk Tryz.func239 (by kernel_rfl) (by kernel_rfl)
theorem ent240 : Ent Tryz.prog 240 := Ent.mk Tryz.func240 (by kernel_rfl) (by kernel_rfl)
theorem ent241 : Ent Tryz.prog 241 := Ent.mk Tryz.func241 (by kernel_rfl) (by kernel_rfl)
theorem ent242 : Ent Tryz.prog 242 := Ent.mk Tryz.func242 (by kernel_rfl) (by kernel_rfl)
theorem ent243 : Ent Tryz.prog 243 := Ent.mk Tryz.func243 (by kernel_rfl) (by kernel_rfl)
theorem ent244 : Ent Tryz.prog 244 := Ent.mk Tryz.func244 (by kernel_rfl) (by kernel_rfl)
theorem ent245 : Ent Tryz.prog 245 := Ent.mk Tryz.func245 (by kernel_rfl) (by kernel_rfl)
theorem ent246 : Ent Tryz.prog 246 := Ent.mk Tryz.func246 (by kernel_rfl) (by kernel_rfl)
theorem ent247 : Ent Tryz.prog 247 := Ent.mk Tryz.func247 (by kernel_rfl) (by kernel_rfl)
theorem ent248 : Ent Tryz.prog 248 := Ent.mk Tryz.func248 (by kernel_rfl) (by kernel_rfl)
theorem ent249 : Ent Tryz.prog 249 := Ent.mk Tryz.func249 (by kernel_rfl) (by kernel_rfl)
theorem ent250 : Ent Tryz.prog 250 := Ent.mk Tryz.func250 (by kernel_rfl) (by kernel_rfl)
theorem ent262 : Ent Tryz.prog 262 := Ent.mk Tryz.func262 (by kernel_rfl) (by kernel_rfl)
theorem ent263 : Ent Tryz.prog 263 := Ent.mk Tryz.func263 (by kernel_rfl) (by kernel_rfl)
theorem ent264 : Ent Tryz.prog 264 := Ent.mk Tryz.func264 (by kernel_rfl) (by kernel_rfl)
theorem ent267 : Ent Tryz.prog 267 := Ent.mk Tryz.func267 (by kernel_rfl) (by kernel_rfl)
theorem ent268 : Ent Tryz.prog 268 := Ent.mk Tryz.func268 (by kernel_rfl) (by kernel_rfl)
theorem ent269 : Ent Tryz.prog 269 := Ent.mk Tryz.func269 (by kernel_rfl) (by kernel_rfl)
theorem ent270 : Ent Tryz.prog 270 := Ent.mk Tryz.func270 (by kernel_rfl) (by kernel_rfl)
theorem ent271 : Ent Tryz.prog 271 := Ent.mk Tryz.func271 (by kernel_rfl) (by kernel_rfl)
theorem ent272 : Ent Tryz.prog 272 := Ent.mk Tryz.func272 (by kernel_rfl) (by kernel_rfl)
theorem ent273 : Ent Tryz.prog 273 := Ent.mk Tryz.func273 (by kernel_rfl) (by kernel_rfl)
theorem ent274 : Ent Tryz.prog 274 := Ent.mk Tryz.func274 (by kernel_rfl) (by kernel_rfl)
theorem ent275 : Ent Tryz.prog 275 := Ent.mk Tryz.func275 (by kernel_rfl) (by kernel_rfl)
theorem ent276 : Ent Tryz.prog 276 := Ent.mk Tryz.func276 (by kernel_rfl) (by kernel_rfl)
theorem ent277 : Ent Tryz.prog 277 := Ent.mk Tryz.func277 (by kernel_rfl) (by kernel_rfl)
theorem ent278 : Ent Tryz.prog 278 := Ent.mk Tryz.func278 (by kernel_rfl) (by kernel_rfl)
theorem ent279 : Ent Tryz.prog 279 := Ent.mk Tryz.func279 (by kernel_rfl) (by kernel_rfl)
theorem ent280 : Ent Tryz.prog 280 := Ent.mk Tryz.func280 (by kernel_rfl) (by kernel_rfl)
theorem ent281 : Ent Tryz.prog 281 := Ent.mk Tryz.func281 (by kernel_rfl) (by kernel_rfl)
theorem ent282 : Ent Tryz.prog 282 := Ent.mk Tryz.func282 (by kernel_rfl) (by kernel_rfl)
theorem ent283 : Ent Tryz.prog 283 := Ent.mk Tryz.func283 (by kernel_rfl) (by kernel_rfl)
theorem ent284 : Ent Tryz.prog 284 := Ent.mk Tryz.func284 (by kernel_rfl) (by kernel_rfl)
theorem ent285 : Ent Tryz.prog 285 := Ent.mk Tryz.func285 (by kernel_rfl) (by kernel_rfl)
theorem ent286 : Ent Tryz.prog 286 := Ent.mk Tryz.func286 (by kernel_rfl) (by kernel_rfl)
theorem ent293 : Ent Tryz.prog 293 := Ent.mk Tryz.func293 (by kernel_rfl) (by kernel_rfl)
theorem ent295 : Ent Tryz.prog 295 := Ent.mk Tryz.func295 (by kernel_rfl) (by kernel_rfl)
theorem ent296 : Ent Tryz.prog 296 := Ent.mk Tryz.func296 (by kernel_rfl) (by kernel_rfl)
theorem ent297 : Ent Tryz.prog 297 := Ent.mk Tryz.func297 (by kernel_rfl) (by kernel_rfl)
theorem ent298 : Ent Tryz.prog 298 := Ent.mk Tryz.func298 (by kernel_rfl) (by kernel_rfl)
theorem ent299 : Ent Tryz.prog 299 := Ent.mk Tryz.func299 (by kernel_rfl) (by kernel_rfl)
theorem ent300 : Ent Tryz.prog 300 := Ent.mk Tryz.func300 (by kernel_rfl) (by kernel_rfl)
theorem ent311 : Ent Tryz.prog 311 := Ent.mk Tryz.func311 (by kernel_rfl) (by kernel_rfl)
theorem ent337 : Ent Tryz.prog 337 := Ent.mk Tryz.func337 (by kernel_rfl) (by kernel_rfl)
theorem ent341 : Ent Tryz.prog 341 := Ent.mk Tryz.func341 (by kernel_rfl) (by kernel_rfl)
theorem mixed : Tryz.prog.follows .mixedOrders = true := by kernel_rfl
end Go.Proofs.YtggolnppckpdlaaGreat
namespace Go.Sk
open Go Go.RowKit
section
attribute [local semireducible] OX OW QX QW RA
variable {P : Program} {n : Nw} {ops : Array Oper} {Q : Post} {o : Oper} {rest : List Oper} {L : List (Nat × Value)} {b0 : Env} {w : World} (S : Sig P)
end
section
variable {P : Program} {n : Nw} {ops : Array Oper} {Q : Post} {K : Env → World → Prop} {o : Oper} {rest : List Oper} {L : List (Nat × Value)} {b : Env} {w : World} (S : Sig P)
theorem y46 {F : Frag} {a : Option Addr} {m b' off : Nat} {cs : List Value} {T : TypeId} {fr : Nat × Nat} {el : Nat → List Value} {d : Nat} {t : TypeId} {x : Operand} {j : Nat} {ti : TI} {v : Value} (hs : SlB F 1 a m b' off cs T fr el) (hM : Mem w F) (hj : j < m)
    (kk : OW P n ops Q rest (ovl ((d, v) :: L) b) w) (hd : o.dst = some d := by exact rfl) (hlt : Nat.blt d n.n = true := by exact rfl) (ho : o.op = .load t x := by exact rfl) (hx : ev (ovl L b) x = .pointer (some ⟨b', off + j * 1, none⟩) := by exact rfl) (ht : lk S.tab t = some ti := by exact rfl) (hag : isAgD ti.d = false := by exact rfl) (hv : (match (el j)[0]? with | some v => nf v | none => none) = some v := by exact rfl) : OX P n ops Q o rest (ovl L b) w :=
  OX.val hd hlt (Yq.loadB1 S hs hM ho hx ht hag hj hv) kk
end
end Go.Sk
