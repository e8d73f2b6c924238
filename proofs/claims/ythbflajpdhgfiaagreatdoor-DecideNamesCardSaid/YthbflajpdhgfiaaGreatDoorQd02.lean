/- Texts of ours, joined: the steps of the proof, or the claim's theorem. -/
import Derived.ChangeKeysEq
import Derived.KernelRfl
import Derived.Laws.MakeOwn
import Derived.Laws.StructEq
import Derived.Test.YthbflajpdhgfiaaGreatDoorProg
import Derived.Test.YthbflajpdhgfiaaGreatDoorQd01
set_option linter.all false
set_option maxHeartbeats 16000000
namespace Go.Proofs.YthbflajpdhgfiaaGreatDoor
open Go Go.Sk Go.RowKit
set_option maxRecDepth 100000 in
abbrev zs0:Value:=.string ⟨#[]⟩
def tab:Tab:=(.node (.node (.node (.node (.node (.node (.node .nil 2 ⟨.int .i64,1,[.int .i64 (0)],8⟩
 .nil) 3 ⟨.int .i64,1,[.int .i64 (0)],8⟩
 .nil) 4 ⟨.bool,1,[.bool false],1⟩
 (.node .nil 5 ⟨.int .u8,1,[.int .u8 (0)],1⟩
 .nil)) 9 ⟨.string,1,[.string ⟨#[]⟩],16⟩
 (.node (.node (.node .nil 21 ⟨.int .i32,1,[.int .i32 (0)],4⟩
 .nil) 23 ⟨.slice 28,1,[.slice none 0 0],24⟩
 .nil) 26 ⟨.slice 2,1,[.slice none 0 0],24⟩
 (.node .nil 28 ⟨.struct #[⟨ "Kind",5,0,false,"","",0⟩,⟨ "Nums",26,1,false,"","",8⟩,⟨ "Text",9,2,false,"","",32⟩],3,[.int .u8 (0),.slice none 0 0,.string ⟨#[]⟩],48⟩
 .nil))) 29 ⟨.func #[5,26] #[28] true,1,[.nilFunc],8⟩
 (.node (.node (.node (.node .nil 31 ⟨.slice 9,1,[.slice none 0 0],24⟩
 .nil) 33 ⟨.struct #[⟨ "V",5,0,false,"","",0⟩,⟨ "Kind",5,1,false,"","",1⟩,⟨ "Nums",26,2,false,"","",8⟩,⟨ "Texts",31,3,false,"","",32⟩],4,[.int .u8 (0),.int .u8 (0),.slice none 0 0,.slice none 0 0],56⟩
 .nil) 34 ⟨.struct #[⟨ "c",28,0,false,"","souk/souklaw20",0⟩,⟨ "e",33,3,false,"","souk/souklaw20",48⟩],7,[.int .u8 (0),.slice none 0 0,.string ⟨#[]⟩,.int .u8 (0),.int .u8 (0),.slice none 0 0,.slice none 0 0],104⟩
 (.node .nil 35 ⟨.func #[5,26] #[33] true,1,[.nilFunc],8⟩
 .nil)) 36 ⟨.slice 34,1,[.slice none 0 0],24⟩
 (.node (.node .nil 38 ⟨.int .i64,1,[.int .i64 (0)],8⟩
 .nil) 39 ⟨.struct #[⟨ "c",28,0,false,"","souk/souklaw20",0⟩,⟨ "e",38,3,false,"","souk/souklaw20",48⟩],4,[.int .u8 (0),.slice none 0 0,.string ⟨#[]⟩,.int .i64 (0)],56⟩
 (.node .nil 40 ⟨.slice 39,1,[.slice none 0 0],24⟩
 .nil)))) 42 ⟨.slice 92,1,[.slice none 0 0],24⟩
 (.node (.node (.node (.node (.node .nil 43 ⟨.slice 94,1,[.slice none 0 0],24⟩
 .nil) 44 ⟨.slice 137,1,[.slice none 0 0],24⟩
 .nil) 45 ⟨.slice 55,1,[.slice none 0 0],24⟩
 (.node .nil 46 ⟨.slice 67,1,[.slice none 0 0],24⟩
 .nil)) 48 ⟨.struct #[⟨ "Clock",2,0,false,"","",0⟩,⟨ "Fee",2,1,false,"","",8⟩,⟨ "NextOrder",2,2,false,"","",16⟩,⟨ "NextAuction",2,3,false,"","",24⟩,⟨ "Accounts",42,4,false,"","",32⟩,⟨ "Insts",43,5,false,"","",56⟩,⟨ "Rows",44,6,false,"","",80⟩,⟨ "Orders",45,7,false,"","",104⟩,⟨ "Auctions",46,8,false,"","",128⟩],9,[.int .i64 (0),.int .i64 (0),.int .i64 (0),.int .i64 (0),.slice none 0 0,.slice none 0 0,.slice none 0 0,.slice none 0 0,.slice none 0 0],152⟩
 (.node (.node .nil 51 ⟨.slice 33,1,[.slice none 0 0],24⟩
 .nil) 55 ⟨.struct #[⟨ "ID",2,0,false,"","",0⟩,⟨ "Acct",3,1,false,"","",8⟩,⟨ "Inst",3,2,false,"","",16⟩,⟨ "Side",5,3,false,"","",24⟩,⟨ "Price",2,4,false,"","",32⟩,⟨ "Left",2,5,false,"","",40⟩],6,[.int .i64 (0),.int .i64 (0),.int .i64 (0),.int .u8 (0),.int .i64 (0),.int .i64 (0)],48⟩
 (.node .nil 65 ⟨.slice 72,1,[.slice none 0 0],24⟩
 .nil))) 67 ⟨.struct #[⟨ "ID",2,0,false,"","",0⟩,⟨ "Seller",3,1,false,"","",8⟩,⟨ "Inst",3,2,false,"","",16⟩,⟨ "Sealed",4,3,false,"","",24⟩,⟨ "Qty",2,4,false,"","",32⟩,⟨ "Reserve",2,5,false,"","",40⟩,⟨ "Step",2,6,false,"","",48⟩,⟨ "End",2,7,false,"","",56⟩,⟨ "Bids",65,8,false,"","",64⟩],9,[.int .i64 (0),.int .i64 (0),.int .i64 (0),.bool false,.int .i64 (0),.int .i64 (0),.int .i64 (0),.int .i64 (0),.slice none 0 0],88⟩
 (.node (.node (.node (.node .nil 72 ⟨.struct #[⟨ "Acct",3,0,false,"","",0⟩,⟨ "Amount",2,1,false,"","",8⟩],2,[.int .i64 (0),.int .i64 (0)],16⟩
 .nil) 80 ⟨.func #[48] #[4] false,1,[.nilFunc],8⟩
 .nil) 84 ⟨.pointer 86,1,[.pointer none],8⟩
 (.node .nil 86 ⟨.struct #[⟨ "s",48,0,false,"","souk/decide",0⟩,⟨ "l",51,9,false,"","souk/decide",152⟩,⟨ "e",38,10,false,"","souk/decide",176⟩],11,[.int .i64 (0),.int .i64 (0),.int .i64 (0),.int .i64 (0),.slice none 0 0,.slice none 0 0,.slice none 0 0,.slice none 0 0,.slice none 0 0,.slice none 0 0,.int .i64 (0)],184⟩
 .nil)) 92 ⟨.struct #[⟨ "Name",9,0,false,"","",0⟩,⟨ "Open",4,1,false,"","",16⟩],2,[.string ⟨#[]⟩,.bool false],24⟩
 (.node (.node .nil 94 ⟨.struct #[⟨ "Name",9,0,false,"","",0⟩,⟨ "Tick",2,1,false,"","",16⟩,⟨ "Halted",4,2,false,"","",24⟩],3,[.string ⟨#[]⟩,.int .i64 (0),.bool false],32⟩
 .nil) 107 ⟨.slice 3,1,[.slice none 0 0],24⟩
 (.node .nil 109 ⟨.struct #[⟨ "kind",5,0,false,"","souk/decide",0⟩,⟨ "from",107,1,false,"","souk/decide",8⟩],2,[.int .u8 (0),.slice none 0 0],32⟩
 .nil))))) 110 ⟨.map 5 109,1,[.map none],8⟩
 (.node (.node (.node (.node (.node (.node .nil 120 ⟨.func #[2,2] #[3] false,1,[.nilFunc],8⟩
 .nil) 130 ⟨.int .u64,1,[.int .u64 (0)],8⟩
 .nil) 132 ⟨.array 3 120,3,[.nilFunc,.nilFunc,.nilFunc],24⟩
 (.node .nil 137 ⟨.struct #[⟨ "Acct",3,0,false,"","",0⟩,⟨ "Asset",3,1,false,"","",8⟩,⟨ "Free",2,2,false,"","",16⟩,⟨ "Held",2,3,false,"","",24⟩],4,[.int .i64 (0),.int .i64 (0),.int .i64 (0),.int .i64 (0)],32⟩
 .nil)) 139 ⟨.pointer 141,1,[.pointer none],8⟩
 (.node (.node (.node .nil 141 ⟨.struct #[⟨ "s",48,0,false,"","souk/apply",0⟩,⟨ "n",26,9,false,"","souk/apply",152⟩,⟨ "text",9,10,false,"","souk/apply",176⟩],11,[.int .i64 (0),.int .i64 (0),.int .i64 (0),.int .i64 (0),.slice none 0 0,.slice none 0 0,.slice none 0 0,.slice none 0 0,.slice none 0 0,.slice none 0 0,.string ⟨#[]⟩],192⟩
 .nil) 142 ⟨.func #[139] #[38] false,1,[.nilFunc],8⟩
 .nil) 143 ⟨.array 24 142,24,[.nilFunc,.nilFunc,.nilFunc,.nilFunc,.nilFunc,.nilFunc,.nilFunc,.nilFunc,.nilFunc,.nilFunc,.nilFunc,.nilFunc,.nilFunc,.nilFunc,.nilFunc,.nilFunc,.nilFunc,.nilFunc,.nilFunc,.nilFunc,.nilFunc,.nilFunc,.nilFunc,.nilFunc],192⟩
 (.node .nil 152 ⟨.slice 190,1,[.slice none 0 0],24⟩
 .nil))) 159 ⟨.slice 162,1,[.slice none 0 0],24⟩
 (.node (.node (.node (.node .nil 162 ⟨.struct #[⟨ "word",9,0,false,"","souk/state",0⟩,⟨ "ok",80,1,false,"","souk/state",16⟩],2,[.string ⟨#[]⟩,.nilFunc],24⟩
 .nil) 170 ⟨.int .i64,1,[.int .i64 (0)],8⟩
 .nil) 177 ⟨.int .u32,1,[.int .u32 (0)],4⟩
 (.node .nil 179 ⟨.int .u64,1,[.int .u64 (0)],8⟩
 .nil)) 182 ⟨.struct #[],0,[],0⟩
 (.node (.node .nil 183 ⟨.struct #[],0,[],0⟩
 .nil) 186 ⟨.array 3 9,3,[.string ⟨#[]⟩,.string ⟨#[]⟩,.string ⟨#[]⟩],48⟩
 (.node .nil 188 ⟨.struct #[⟨ "name",9,0,false,"","souk/schema",0⟩,⟨ "fields",186,1,false,"","souk/schema",16⟩,⟨ "text",4,4,false,"","souk/schema",64⟩],5,[.string ⟨#[]⟩,.string ⟨#[]⟩,.string ⟨#[]⟩,.string ⟨#[]⟩,.bool false],72⟩
 .nil)))) 190 ⟨.int .u8,1,[.int .u8 (0)],1⟩
 (.node (.node (.node (.node (.node .nil 192 ⟨.slice 5,1,[.slice none 0 0],24⟩
 .nil) 199 ⟨.int .u64,1,[.int .u64 (0)],8⟩
 .nil) 221 ⟨.struct #[⟨ "Acct",3,0,false,"","",0⟩,⟨ "Asset",3,1,false,"","",8⟩,⟨ "Free",2,2,false,"","",16⟩,⟨ "Held",2,3,false,"","",24⟩],4,[.int .i64 (0),.int .i64 (0),.int .i64 (0),.int .i64 (0)],32⟩
 (.node .nil 226 ⟨.pointer 94,1,[.pointer none],8⟩
 .nil)) 229 ⟨.array 20 188,100,[zs0,zs0,zs0,zs0,.bool false,zs0,zs0,zs0,zs0,.bool false,zs0,zs0,zs0,zs0,.bool false,zs0,zs0,zs0,zs0,.bool false,zs0,zs0,zs0,zs0,.bool false,zs0,zs0,zs0,zs0,.bool false,zs0,zs0,zs0,zs0,.bool false,zs0,zs0,zs0,zs0,.bool false,zs0,zs0,zs0,zs0,.bool false,zs0,zs0,zs0,zs0,.bool false,zs0,zs0,zs0,zs0,.bool false,zs0,zs0,zs0,zs0,.bool false,zs0,zs0,zs0,zs0,.bool false,zs0,zs0,zs0,zs0,.bool false,zs0,zs0,zs0,zs0,.bool false,zs0,zs0,zs0,zs0,.bool false,zs0,zs0,zs0,zs0,.bool false,zs0,zs0,zs0,zs0,.bool false,zs0,zs0,zs0,zs0,.bool false,zs0,zs0,zs0,zs0,.bool false],1440⟩
 (.node (.node .nil 232 ⟨.array 23 188,115,[zs0,zs0,zs0,zs0,.bool false,zs0,zs0,zs0,zs0,.bool false,zs0,zs0,zs0,zs0,.bool false,zs0,zs0,zs0,zs0,.bool false,zs0,zs0,zs0,zs0,.bool false,zs0,zs0,zs0,zs0,.bool false,zs0,zs0,zs0,zs0,.bool false,zs0,zs0,zs0,zs0,.bool false,zs0,zs0,zs0,zs0,.bool false,zs0,zs0,zs0,zs0,.bool false,zs0,zs0,zs0,zs0,.bool false,zs0,zs0,zs0,zs0,.bool false,zs0,zs0,zs0,zs0,.bool false,zs0,zs0,zs0,zs0,.bool false,zs0,zs0,zs0,zs0,.bool false,zs0,zs0,zs0,zs0,.bool false,zs0,zs0,zs0,zs0,.bool false,zs0,zs0,zs0,zs0,.bool false,zs0,zs0,zs0,zs0,.bool false,zs0,zs0,zs0,zs0,.bool false,zs0,zs0,zs0,zs0,.bool false,zs0,zs0,zs0,zs0,.bool false,zs0,zs0,zs0,zs0,.bool false],1656⟩
 .nil) 242 ⟨.map 247 2,1,[.map none],8⟩
 (.node .nil 247 ⟨.struct #[⟨ "acct",3,0,false,"","souk/state",0⟩,⟨ "asset",3,1,false,"","souk/state",8⟩],2,[.int .i64 (0),.int .i64 (0)],16⟩
 .nil))) 261 ⟨.slice 221,1,[.slice none 0 0],24⟩
 (.node (.node (.node (.node .nil 272 ⟨.struct #[⟨ "acct",3,0,false,"","souk/ledger",0⟩,⟨ "asset",3,1,false,"","souk/ledger",8⟩],2,[.int .i64 (0),.int .i64 (0)],16⟩
 .nil) 273 ⟨.array 17 2,17,[.int .i64 (0),.int .i64 (0),.int .i64 (0),.int .i64 (0),.int .i64 (0),.int .i64 (0),.int .i64 (0),.int .i64 (0),.int .i64 (0),.int .i64 (0),.int .i64 (0),.int .i64 (0),.int .i64 (0),.int .i64 (0),.int .i64 (0),.int .i64 (0),.int .i64 (0)],136⟩
 .nil) 275 ⟨.struct #[⟨ "place",272,0,true,"","souk/ledger",0⟩,⟨ "free",2,2,false,"","souk/ledger",16⟩,⟨ "held",2,3,false,"","souk/ledger",24⟩],4,[.int .i64 (0),.int .i64 (0),.int .i64 (0),.int .i64 (0)],32⟩
 (.node .nil 281 ⟨.interface #[("Error",318)],1,[.nilIface],16⟩
 .nil)) 284 ⟨.map 272 275,1,[.map none],8⟩
 (.node (.node .nil 285 ⟨.slice 275,1,[.slice none 0 0],24⟩
 .nil) 294 ⟨.struct #[⟨ "high",2,0,false,"","souk/money",0⟩,⟨ "low",179,1,false,"","souk/money",8⟩],2,[.int .i64 (0),.int .u64 (0)],16⟩
 (.node .nil 297 ⟨.map 3 2,1,[.map none],8⟩
 .nil))))))
set_option maxRecDepth 100000 in
theorem tab_ok:tab.All fun p=>Tryz.prog.underlying p.1=some p.2.d∧(Tryz.prog.info? p.1).map (fun i=>(i.size,i.zero.map Value.cells,i.bytes))=some (p.2.size,some p.2.zero.toArray,p.2.bytes) :=
 by repeat' (first|exact trivial|apply And.intro|kernel_rfl)
def sg:Sig Tryz.prog:=⟨tab,tab_ok⟩
theorem em {f:FuncId}{fn:Func}(hf:Tryz.prog.funcs[f]?=some fn)(h1:(fn.name=="runtime.NumGoroutine")=false:=by kernel_rfl)(h2:fn.body.isNone=false:=by kernel_rfl):Ent Tryz.prog f:=Ent.mk hf h1 h2
theorem zGR:Ent Tryz.prog 7:=em Tryz.func7
theorem ent8:Ent Tryz.prog 8:=em Tryz.func8
theorem ent9:Ent Tryz.prog 9:=em Tryz.func9
theorem ent10:Ent Tryz.prog 10:=em Tryz.func10
theorem ent11:Ent Tryz.prog 11:=em Tryz.func11
theorem ent12:Ent Tryz.prog 12:=em Tryz.func12
theorem zQW:Ent Tryz.prog 13:=em Tryz.func13
theorem ent15:Ent Tryz.prog 15:=em Tryz.func15
theorem zFu:Ent Tryz.prog 16:=em Tryz.func16
theorem ent17:Ent Tryz.prog 17:=em Tryz.func17
theorem zDb:Ent Tryz.prog 18:=em Tryz.func18
theorem zDc:Ent Tryz.prog 19:=em Tryz.func19
theorem ent20:Ent Tryz.prog 20:=em Tryz.func20
theorem zQX:Ent Tryz.prog 21:=em Tryz.func21
theorem zFv:Ent Tryz.prog 22:=em Tryz.func22
theorem zKr:Ent Tryz.prog 23:=em Tryz.func23
theorem zGx:Ent Tryz.prog 24:=em Tryz.func24
theorem zNc:Ent Tryz.prog 25:=em Tryz.func25
theorem zKs:Ent Tryz.prog 26:=em Tryz.func26
theorem zNd:Ent Tryz.prog 27:=em Tryz.func27
theorem zNe:Ent Tryz.prog 28:=em Tryz.func28
theorem zDd:Ent Tryz.prog 30:=em Tryz.func30
theorem zNf:Ent Tryz.prog 31:=em Tryz.func31
theorem ent33:Ent Tryz.prog 33:=em Tryz.func33
theorem zNg:Ent Tryz.prog 34:=em Tryz.func34
theorem ent35:Ent Tryz.prog 35:=em Tryz.func35
theorem zCd:Ent Tryz.prog 36:=em Tryz.func36
theorem ent37:Ent Tryz.prog 37:=em Tryz.func37
theorem zQY:Ent Tryz.prog 38:=em Tryz.func38
theorem ent39:Ent Tryz.prog 39:=em Tryz.func39
theorem zQZ:Ent Tryz.prog 40:=em Tryz.func40
theorem ent42:Ent Tryz.prog 42:=em Tryz.func42
theorem ent43:Ent Tryz.prog 43:=em Tryz.func43
theorem zGy:Ent Tryz.prog 44:=em Tryz.func44
theorem zKt:Ent Tryz.prog 45:=em Tryz.func45
theorem ent46:Ent Tryz.prog 46:=em Tryz.func46
theorem ent47:Ent Tryz.prog 47:=em Tryz.func47
theorem zHd:Ent Tryz.prog 48:=em Tryz.func48
theorem ent49:Ent Tryz.prog 49:=em Tryz.func49
theorem ent50:Ent Tryz.prog 50:=em Tryz.func50
theorem ent51:Ent Tryz.prog 51:=em Tryz.func51
theorem ent52:Ent Tryz.prog 52:=em Tryz.func52
theorem zNh:Ent Tryz.prog 54:=em Tryz.func54
theorem ent56:Ent Tryz.prog 56:=em Tryz.func56
theorem zNi:Ent Tryz.prog 57:=em Tryz.func57
theorem ent58:Ent Tryz.prog 58:=em Tryz.func58
theorem zQa:Ent Tryz.prog 59:=em Tryz.func59
theorem ent60:Ent Tryz.prog 60:=em Tryz.func60
theorem ent61:Ent Tryz.prog 61:=em Tryz.func61
theorem zNj:Ent Tryz.prog 62:=em Tryz.func62
theorem zKu:Ent Tryz.prog 63:=em Tryz.func63
theorem zHe:Ent Tryz.prog 64:=em Tryz.func64
theorem ent65:Ent Tryz.prog 65:=em Tryz.func65
theorem ent66:Ent Tryz.prog 66:=em Tryz.func66
theorem ent67:Ent Tryz.prog 67:=em Tryz.func67
theorem zNk:Ent Tryz.prog 68:=em Tryz.func68
theorem ent69:Ent Tryz.prog 69:=em Tryz.func69
theorem zEW:Ent Tryz.prog 70:=em Tryz.func70
theorem zQb:Ent Tryz.prog 71:=em Tryz.func71
theorem zQc:Ent Tryz.prog 72:=em Tryz.func72
theorem zQd:Ent Tryz.prog 75:=em Tryz.func75
theorem ent76:Ent Tryz.prog 76:=em Tryz.func76
theorem ent77:Ent Tryz.prog 77:=em Tryz.func77
theorem ent78:Ent Tryz.prog 78:=em Tryz.func78
theorem zQe:Ent Tryz.prog 79:=em Tryz.func79
theorem ent80:Ent Tryz.prog 80:=em Tryz.func80
theorem ent81:Ent Tryz.prog 81:=em Tryz.func81
theorem ent82:Ent Tryz.prog 82:=em Tryz.func82
theorem zIp:Ent Tryz.prog 83:=em Tryz.func83
theorem zKv:Ent Tryz.prog 84:=em Tryz.func84
theorem zIq:Ent Tryz.prog 85:=em Tryz.func85
theorem ent86:Ent Tryz.prog 86:=em Tryz.func86
theorem ent87:Ent Tryz.prog 87:=em Tryz.func87
theorem ent88:Ent Tryz.prog 88:=em Tryz.func88
theorem zQf:Ent Tryz.prog 89:=em Tryz.func89
theorem ent90:Ent Tryz.prog 90:=em Tryz.func90
theorem ent92:Ent Tryz.prog 92:=em Tryz.func92
theorem ent93:Ent Tryz.prog 93:=em Tryz.func93
theorem ent94:Ent Tryz.prog 94:=em Tryz.func94
theorem ent95:Ent Tryz.prog 95:=em Tryz.func95
theorem ent96:Ent Tryz.prog 96:=em Tryz.func96
theorem ent97:Ent Tryz.prog 97:=em Tryz.func97
theorem ent98:Ent Tryz.prog 98:=em Tryz.func98
theorem ent99:Ent Tryz.prog 99:=em Tryz.func99
theorem ent100:Ent Tryz.prog 100:=em Tryz.func100
theorem ent101:Ent Tryz.prog 101:=em Tryz.func101
theorem ent102:Ent Tryz.prog 102:=em Tryz.func102
theorem ent113:Ent Tryz.prog 113:=em Tryz.func113
theorem ent114:Ent Tryz.prog 114:=em Tryz.func114
theorem ent115:Ent Tryz.prog 115:=em Tryz.func115
theorem ent116:Ent Tryz.prog 116:=em Tryz.func116
theorem ent117:Ent Tryz.prog 117:=em Tryz.func117
theorem ent118:Ent Tryz.prog 118:=em Tryz.func118
theorem ent119:Ent Tryz.prog 119:=em Tryz.func119
theorem ent120:Ent Tryz.prog 120:=em Tryz.func120
theorem ent121:Ent Tryz.prog 121:=em Tryz.func121
theorem ent122:Ent Tryz.prog 122:=em Tryz.func122
theorem ent123:Ent Tryz.prog 123:=em Tryz.func123
theorem ent124:Ent Tryz.prog 124:=em Tryz.func124
theorem ent125:Ent Tryz.prog 125:=em Tryz.func125
theorem ent126:Ent Tryz.prog 126:=em Tryz.func126
theorem ent127:Ent Tryz.prog 127:=em Tryz.func127
theorem ent128:Ent Tryz.prog 128:=em Tryz.func128
theorem ent129:Ent Tryz.prog 129:=em Tryz.func129
theorem ent130:Ent Tryz.prog 130:=em Tryz.func130
theorem ent131:Ent Tryz.prog 131:=em Tryz.func131
theorem ent132:Ent Tryz.prog 132:=em Tryz.func132
theorem ent133:Ent Tryz.prog 133:=em Tryz.func133
theorem ent134:Ent Tryz.prog 134:=em Tryz.func134
theorem ent135:Ent Tryz.prog 135:=em Tryz.func135
theorem ent136:Ent Tryz.prog 136:=em Tryz.func136
theorem zMG:Ent Tryz.prog 137:=em Tryz.func137
theorem ent138:Ent Tryz.prog 138:=em Tryz.func138
theorem zQg:Ent Tryz.prog 139:=em Tryz.func139
theorem ent140:Ent Tryz.prog 140:=em Tryz.func140
theorem ent141:Ent Tryz.prog 141:=em Tryz.func141
theorem ent142:Ent Tryz.prog 142:=em Tryz.func142
theorem ent143:Ent Tryz.prog 143:=em Tryz.func143
theorem ent144:Ent Tryz.prog 144:=em Tryz.func144
theorem ent145:Ent Tryz.prog 145:=em Tryz.func145
theorem ent146:Ent Tryz.prog 146:=em Tryz.func146
theorem ent147:Ent Tryz.prog 147:=em Tryz.func147
theorem ent148:Ent Tryz.prog 148:=em Tryz.func148
theorem zJV:Ent Tryz.prog 149:=em Tryz.func149
theorem zJW:Ent Tryz.prog 150:=em Tryz.func150
theorem zHf:Ent Tryz.prog 151:=em Tryz.func151
theorem zMH:Ent Tryz.prog 152:=em Tryz.func152
theorem zAt:Ent Tryz.prog 158:=em Tryz.func158
theorem zJX:Ent Tryz.prog 159:=em Tryz.func159
theorem zAu:Ent Tryz.prog 160:=em Tryz.func160
theorem zQh:Ent Tryz.prog 161:=em Tryz.func161
theorem ent162:Ent Tryz.prog 162:=em Tryz.func162
theorem zQi:Ent Tryz.prog 163:=em Tryz.func163
theorem zQj:Ent Tryz.prog 164:=em Tryz.func164
theorem zHg:Ent Tryz.prog 165:=em Tryz.func165
theorem zJY:Ent Tryz.prog 166:=em Tryz.func166
theorem zJZ:Ent Tryz.prog 167:=em Tryz.func167
theorem zMI:Ent Tryz.prog 168:=em Tryz.func168
theorem zMJ:Ent Tryz.prog 169:=em Tryz.func169
theorem ent170:Ent Tryz.prog 170:=em Tryz.func170
theorem ent171:Ent Tryz.prog 171:=em Tryz.func171
theorem zQk:Ent Tryz.prog 172:=em Tryz.func172
theorem zFa:Ent Tryz.prog 173:=em Tryz.func173
theorem zJa:Ent Tryz.prog 174:=em Tryz.func174
theorem zQl:Ent Tryz.prog 175:=em Tryz.func175
theorem zQm:Ent Tryz.prog 176:=em Tryz.func176
theorem zD0:Ent Tryz.prog 177:=em Tryz.func177
theorem zQn:Ent Tryz.prog 178:=em Tryz.func178
theorem zCp:Ent Tryz.prog 179:=em Tryz.func179
theorem ent180:Ent Tryz.prog 180:=em Tryz.func180
theorem ent181:Ent Tryz.prog 181:=em Tryz.func181
theorem ent182:Ent Tryz.prog 182:=em Tryz.func182
theorem ent183:Ent Tryz.prog 183:=em Tryz.func183
theorem zJb:Ent Tryz.prog 184:=em Tryz.func184
theorem zQo:Ent Tryz.prog 185:=em Tryz.func185
theorem ent186:Ent Tryz.prog 186:=em Tryz.func186
theorem zJc:Ent Tryz.prog 187:=em Tryz.func187
theorem zJd:Ent Tryz.prog 188:=em Tryz.func188
theorem ent189:Ent Tryz.prog 189:=em Tryz.func189
theorem ent190:Ent Tryz.prog 190:=em Tryz.func190
theorem zQp:Ent Tryz.prog 191:=em Tryz.func191
theorem ent192:Ent Tryz.prog 192:=em Tryz.func192
theorem ent193:Ent Tryz.prog 193:=em Tryz.func193
theorem ent194:Ent Tryz.prog 194:=em Tryz.func194
theorem ent195:Ent Tryz.prog 195:=em Tryz.func195
theorem ent196:Ent Tryz.prog 196:=em Tryz.func196
theorem ent197:Ent Tryz.prog 197:=em Tryz.func197
theorem zQq:Ent Tryz.prog 198:=em Tryz.func198
theorem ent199:Ent Tryz.prog 199:=em Tryz.func199
theorem zJe:Ent Tryz.prog 200:=em Tryz.func200
theorem zMK:Ent Tryz.prog 201:=em Tryz.func201
theorem ent203:Ent Tryz.prog 203:=em Tryz.func203
theorem ent204:Ent Tryz.prog 204:=em Tryz.func204
theorem zML:Ent Tryz.prog 205:=em Tryz.func205
theorem zQr:Ent Tryz.prog 206:=em Tryz.func206
theorem zQs:Ent Tryz.prog 207:=em Tryz.func207
theorem ent208:Ent Tryz.prog 208:=em Tryz.func208
theorem ent209:Ent Tryz.prog 209:=em Tryz.func209
theorem zQt:Ent Tryz.prog 210:=em Tryz.func210
theorem ent211:Ent Tryz.prog 211:=em Tryz.func211
theorem zQu:Ent Tryz.prog 212:=em Tryz.func212
theorem ent213:Ent Tryz.prog 213:=em Tryz.func213
theorem ent214:Ent Tryz.prog 214:=em Tryz.func214
theorem ent215:Ent Tryz.prog 215:=em Tryz.func215
theorem ent216:Ent Tryz.prog 216:=em Tryz.func216
theorem ent217:Ent Tryz.prog 217:=em Tryz.func217
theorem ent218:Ent Tryz.prog 218:=em Tryz.func218
theorem ent219:Ent Tryz.prog 219:=em Tryz.func219
theorem zJf:Ent Tryz.prog 220:=em Tryz.func220
theorem zQv:Ent Tryz.prog 221:=em Tryz.func221
theorem zQw:Ent Tryz.prog 222:=em Tryz.func222
theorem zQx:Ent Tryz.prog 223:=em Tryz.func223
theorem zJg:Ent Tryz.prog 224:=em Tryz.func224
theorem ent225:Ent Tryz.prog 225:=em Tryz.func225
theorem zMM:Ent Tryz.prog 226:=em Tryz.func226
theorem ent228:Ent Tryz.prog 228:=em Tryz.func228
theorem zQy:Ent Tryz.prog 229:=em Tryz.func229
theorem zQz:Ent Tryz.prog 230:=em Tryz.func230
theorem zQ0:Ent Tryz.prog 231:=em Tryz.func231
theorem ent233:Ent Tryz.prog 233:=em Tryz.func233
theorem ent235:Ent Tryz.prog 235:=em Tryz.func235
theorem ent236:Ent Tryz.prog 236:=em Tryz.func236
theorem ent237:Ent Tryz.prog 237:=em Tryz.func237
theorem ent238:Ent Tryz.prog 238:=em Tryz.func238
theorem zMN:Ent Tryz.prog 239:=em Tryz.func239
theorem ent250:Ent Tryz.prog 250:=em Tryz.func250
theorem ent286:Ent Tryz.prog 286:=em Tryz.func286
theorem ent287:Ent Tryz.prog 287:=em Tryz.func287
theorem ent288:Ent Tryz.prog 288:=em Tryz.func288
theorem ent289:Ent Tryz.prog 289:=em Tryz.func289
theorem ent290:Ent Tryz.prog 290:=em Tryz.func290
theorem ent291:Ent Tryz.prog 291:=em Tryz.func291
theorem ent292:Ent Tryz.prog 292:=em Tryz.func292
theorem ent293:Ent Tryz.prog 293:=em Tryz.func293
theorem zQ1:Ent Tryz.prog 297:=em Tryz.func297
theorem zQ2:Ent Tryz.prog 298:=em Tryz.func298
theorem mixed:Tryz.prog.follows .mixedOrders=true:=by kernel_rfl
def zu (n m:Int):Bool:=decide (n ≥ 1)&&decide (n≤m)
theorem zCN (n m:Int)(w:World):Calls Tryz.prog 83 [.int .i64 n,.int .i64 m].toArray w (Ret (.bool (zu n m)) w):=by
 refine enter [.tmp 4] Tryz.func83 rfl Tryz.ntmps83 rfl rfl ?_
 have H:=zA w
 repeat' (first|refine yT ?_|refine yU ?_|(refine y17 ?_ ?_;all_goals intro h)|fail)
 all_goals exact zP rfl H.cl (by simp[zu,h])
theorem zDe (n m:Int)(w:World):Calls Tryz.prog 84 [.int .i64 n,.int .i64 m].toArray w (Ret (.bool (zu n m)) w):=by
 refine enter [.tmp 4] Tryz.func84 rfl Tryz.ntmps84 rfl rfl ?_
 have H:=zA w
 repeat' (first|refine yT ?_|refine yU ?_|(refine y17 ?_ ?_;all_goals intro h)|fail)
 all_goals exact zP rfl H.cl (by simp[zu,h])
structure Bid where
 acct:Int
 amount:Int
 deriving DecidableEq,Inhabited
def Bid.cells (b:Bid):List Value:=[.int .i64 b.acct,.int .i64 b.amount]
structure Auc where
 id:Int
 seller:Int
 inst:Int
 sealed:Bool
 qty:Int
 reserve:Int
 step:Int
 fin:Int
 bids:List Bid
 deriving DecidableEq,Inhabited
def Auc.cells (x:Auc)(a:Option Addr)(cap:Nat):List Value :=
 [.int .i64 x.id,.int .i64 x.seller,.int .i64 x.inst,.bool x.sealed,.int .i64 x.qty,.int .i64 x.reserve,.int .i64 x.step,.int .i64 x.fin,.slice a x.bids.length cap]
def bel (l:List Bid)(j:Nat):List Value:=(l.getD j default).cells
def Bids (F:zC)(a:Option Addr)(cap:Nat)(l:List Bid):Prop:=SlA F 2 a l.length cap (bel l)
theorem c_of (x:Auc)(a:Option Addr)(cap:Nat)(w:World):Calls Tryz.prog 85 [.agg (x.cells a cap).toArray].toArray w (Ret (.iface (if x.sealed then 182 else 183) (.agg #[])) w):=by
 refine enter [.tmp 2] Tryz.func85 rfl Tryz.ntmps85 rfl rfl ?_
 have H:=zA w
 repeat' (first|refine yT ?_|refine y7 sg H ?_|(refine y9 H ?_;intro b w H)|refine yU ?_|(refine y23 ?_ ?_;all_goals intro h)|fail)
 all_goals exact zP rfl H.cl (by simp[h])
theorem zTT (c d:Bid)(T:TypeId)(b:Nat)(w:World)(F:zC)(hF:Mem w F)(hm:(b,Obj.cells d.cells.toArray T (0,0))∈F) :
  Calls Tryz.prog 136 [.agg c.cells.toArray,.pointer (some ⟨b,0,none⟩)].toArray w (Ret (.bool (c.acct==d.acct)) w):=by
 refine enter [.tmp 3] Tryz.func136 rfl Tryz.ntmps136 rfl rfl ?_
 have H:=zA w
 repeat' (first|refine yT ?_|refine y7 sg H ?_|(refine y9 H ?_;intro b w H)|(refine zd rfl rfl (zH sg rfl rfl (H.memF hF) hm rfl rfl) ?_)|refine yU ?_|fail)
 all_goals exact zP rfl H.cl rfl
def zE8 (p:Nat→Bool):Nat→Nat→Int
 | _,0=>-1
 | k,n+1=>if p k then(k:Int) else zE8 p (k+1) n
def idx (p:Nat→Bool)(n:Nat):Int:=zE8 p 0 n
theorem zD1 (p:Nat→Bool):∀ (k s m:Nat),(∀ j,j<k→p (s+j)=false)→k≤m→zE8 p s m=zE8 p (s+k) (m - k)
 | 0,s,m,_,_=>rfl
 | k+1,s,m,h,hm=>by
   obtain⟨m',rfl⟩:∃ m',m=m'+1:=⟨m - 1,by omega⟩
   have h0:=h 0 qO
   simp only[Nat.add_zero] at h0
   rw[zE8,h0]
   simp only[Bool.false_eq_true,if_false]
   rw[zD1 p k (s+1) m' (fun j hj=>by have:=h (j+1) qO;rwa [show s+1+j=s+(j+1) by omega]) qO]
   congr 1<;>omega
theorem zBh {p:Nat→Bool}{n k:Nat}(hk:k<n)(h:∀ j,j<k→p j=false)(h1:p k=true):idx p n=k:=by
 unfold idx
 rw[zD1 p k 0 n (by simpa using h) qO]
 obtain⟨m,hm⟩:∃ m,n - k=m+1:=⟨n - k - 1,by omega⟩
 rw[hm,zE8,Nat.zero_add,h1];rfl
theorem zAo {p:Nat→Bool}{n:Nat}(h:∀ j,j<n→p j=false):idx p n=-1:=by
 unfold idx
 rw[zD1 p n 0 n (by simpa using h) (Nat.le_refl _),Nat.sub_self];rfl
theorem zZ (p:Nat→Bool)(n:Nat):(∃ k,k<n∧(∀ j,j<k→p j=false)∧p k=true∧idx p n=k)∨((∀ j,j<n→p j=false)∧idx p n=-1):=by
 by_cases h:∃ k,k<n∧p k=true
 ·have:∃ k,k<n∧(∀ j,j<k→p j=false)∧p k=true:=by
   obtain⟨k,hk⟩:=h
   induction k using Nat.strongRecOn with
   | _ k ih =>
     by_cases h2:∃ j,j<k∧p j=true
     ·obtain⟨j,hj,hp⟩:=h2
      exact ih j hj ⟨by omega,hp⟩
     ·exact⟨k,hk.1,fun j hj=>by cases hp:p j with|false=>rfl|true=>exact absurd ⟨j,hj,hp⟩ h2,hk.2⟩
  obtain⟨k,h1,h2,h3⟩:=this
  exact .inl ⟨k,h1,h2,h3,zBh h1 h2 h3⟩
 ·have h':∀ j,j<n→p j=false:=fun j hj=>by cases hp:p j with|false=>rfl|true=>exact absurd ⟨j,hj,hp⟩ h
  exact .inr ⟨h',zAo h'⟩
theorem zMO {n cap:Nat}{a:Option Addr}{el:Nat→List Value}{f:FuncId}{caps:List Value}{F:zC}(p:Nat→Bool)(w0:World)(hF:Mem w0 F)(hs:SlA F 2 a n cap el)(hf:Ent Tryz.prog f)
  (hp:∀ j,j<n→∀ w,Cl w0 w→Calls Tryz.prog f ([Value.agg (el j).toArray]++caps).toArray w (Ret (.bool (p j)) w)) :
  Calls Tryz.prog 181 [.slice a n cap,.func (.func f) #[] caps.toArray].toArray w0 (Ret (.int .i64 (idx p n)) w0):=by
 obtain⟨hn,hc,b,off,cs,T,fr,hs⟩:=hs
 refine enter [.tmp 4] Tryz.func181 rfl Tryz.ntmps181 rfl rfl ?_
 have H:=zA w0
 repeat' (first|refine yT ?_|refine yU ?_|with_reducible apply zB|fail)
 refine zI [(4,5),(8,18)] (fun k:Nat=>[(8,.int .i64 (k:Int))]) (fun k w=>k≤n∧(∀ j,j<k→p j=false)∧St w0 [] w) (fun k=>n - k) 0 ⟨rfl,trivial⟩ ⟨zzD _,fun j hj=>by omega,H⟩ ?_
 clear H
 rintro k g w ⟨hk,hpk,H⟩
 repeat' (first|refine yT ?_|refine yU ?_|fail)
 refine zD rfl (fun h=>?_) (fun h=>?_)
 ·have hlt:k<n:=by simpa using h
  repeat' (first|refine yT ?_|(refine zd rfl rfl (zG sg hs rfl rfl rfl rfl rfl rfl rfl rfl qO qO) ?_)|(refine zd rfl rfl (zAn sg hs (H.memF hF) rfl rfl rfl rfl rfl hlt) ?_)|(refine OX.call rfl rfl (zBT hf rfl rfl rfl) (hp k hlt _ H.cl) ?_;refine w2 H ?_;clear H;intro w H)|refine yU ?_|with_reducible apply zB|fail)
  refine zD rfl (fun h2=>?_) (fun h2=>?_)
  ·repeat' (first|refine yT ?_|refine yU ?_|fail)
   exact zP rfl H.cl (by rw[zBh hlt hpk h2])
  ·repeat' (first|refine yT ?_|refine yU ?_|fail)
   refine zF (k+1) rfl ⟨zf qO,trivial⟩ ⟨hlt,fun j hj=>?_,H⟩ qO
   by_cases hj':j=k
   ·rw[hj',h2]
   ·exact hpk j qO
 ·repeat' (first|refine yT ?_|refine yU ?_|fail)
  have hkn:k=n:=by simp at h;omega
  exact zP rfl H.cl (by rw[zAo (hkn ▸ hpk)])
theorem zDU {n cap:Nat}{a:Option Addr}{el:Nat→List Value}{f:FuncId}{caps:List Value}{F:zC}(p:Nat→Bool)(w0:World)(hF:Mem w0 F)(hs:SlA F 2 a n cap el)(hf:Ent Tryz.prog f)
  (hp:∀ j,j<n→∀ w,Cl w0 w→Calls Tryz.prog f ([Value.agg (el j).toArray]++caps).toArray w (Ret (.bool (p j)) w)) :
  Calls Tryz.prog 137 [.slice a n cap,.func (.func f) #[] caps.toArray].toArray w0 (Ret (.bool (decide (idx p n ≥ 0))) w0):=by
 refine enter [.tmp 4] Tryz.func137 rfl Tryz.ntmps137 rfl rfl ?_
 have H:=zA w0
 repeat' (first|refine yT ?_|(refine' y30 ent181 ?_ ?_;rotate_left;exact zMO p _ (H.memF hF) hs hf (fun j hj w' hw'=>hp j hj w' (H.cl.trans hw'));refine w2 H ?_;clear H;intro w H)|refine yU ?_|fail)
 all_goals exact zP rfl H.cl rfl
theorem zD2 {n cap:Nat}{a:Option Addr}{el:Nat→List Value}{f:FuncId}{caps:List Value}{F:zC}(p:Nat→Bool)(w0:World)(hF:Mem w0 F)(hs:SlA F 9 a n cap el)(hf:Ent Tryz.prog f)
  (hp:∀ j,j<n→∀ w,Cl w0 w→Calls Tryz.prog f ([Value.agg (el j).toArray]++caps).toArray w (Ret (.bool (p j)) w)) :
  Calls Tryz.prog 45 [.slice a n cap,.func (.func f) #[] caps.toArray].toArray w0 (Ret (.int .i64 (idx p n)) w0):=by
 obtain⟨hn,hc,b,off,cs,T,fr,hs⟩:=hs
 refine enter [.tmp 4] Tryz.func45 rfl Tryz.ntmps45 rfl rfl ?_
 have H:=zA w0
 repeat' (first|refine yT ?_|refine yU ?_|with_reducible apply zB|fail)
 refine zI [(4,5),(8,18)] (fun k:Nat=>[(8,.int .i64 (k:Int))]) (fun k w=>k≤n∧(∀ j,j<k→p j=false)∧St w0 [] w) (fun k=>n - k) 0 ⟨rfl,trivial⟩ ⟨zzD _,fun j hj=>by omega,H⟩ ?_
 clear H
 rintro k g w ⟨hk,hpk,H⟩
 repeat' (first|refine yT ?_|refine yU ?_|fail)
 refine zD rfl (fun h=>?_) (fun h=>?_)
 ·have hlt:k<n:=by simpa using h
  repeat' (first|refine yT ?_|(refine zd rfl rfl (zG sg hs rfl rfl rfl rfl rfl rfl rfl rfl qO qO) ?_)|(refine zd rfl rfl (zAn sg hs (H.memF hF) rfl rfl rfl rfl rfl hlt) ?_)|(refine OX.call rfl rfl (zBT hf rfl rfl rfl) (hp k hlt _ H.cl) ?_;refine w2 H ?_;clear H;intro w H)|refine yU ?_|with_reducible apply zB|fail)
  refine zD rfl (fun h2=>?_) (fun h2=>?_)
  ·repeat' (first|refine yT ?_|refine yU ?_|fail)
   exact zP rfl H.cl (by rw[zBh hlt hpk h2])
  ·repeat' (first|refine yT ?_|refine yU ?_|fail)
   refine zF (k+1) rfl ⟨zf qO,trivial⟩ ⟨hlt,fun j hj=>?_,H⟩ qO
   by_cases hj':j=k
   ·rw[hj',h2]
   ·exact hpk j qO
 ·repeat' (first|refine yT ?_|refine yU ?_|fail)
  have hkn:k=n:=by simp at h;omega
  exact zP rfl H.cl (by rw[zAo (hkn ▸ hpk)])
theorem zFb {n cap:Nat}{a:Option Addr}{el:Nat→List Value}{F:zC}(w0:World)(hF:Mem w0 F)(hs:SlA F 2 a n cap el)(h1:∀ j,j<n→∀ u∈el j,u.oneCell'=true)(hel:∀ j,j<n→(el j).length=2)(hn:n*16≤140737488355328) :
  Calls Tryz.prog 79 [.slice a n cap].toArray w0 (zi (fun M v=>∃ a' cap',v=.slice a' n cap'∧Go.Sk.Own M 72 2 a' n cap' ((List.range n).flatMap el)) w0):=by
 obtain⟨hnc,hcb,b,off,cs,T,fr,hs⟩:=hs
 refine enter [.tmp 2] Tryz.func79 rfl Tryz.ntmps79 rfl rfl ?_
 have H:=zA w0
 repeat' (first|refine yT ?_|(refine zd rfl rfl (Yq.nilS sg rfl rfl rfl rfl) ?_)|refine yU ?_|fail)
 refine zD rfl (fun h=>?_) (fun h=>?_)
 ·have hn0:n=0:=by
   rcases Nat.eq_zero_or_pos n with h0|h0
   ·exact h0
   ·rw[(hs h0).1] at h;cases h
  subst hn0
  repeat' (first|refine yT ?_|refine yU ?_|fail)
  exact zS rfl H ⟨_,_,rfl,zTP _ _ _⟩
 ·have hM:=H.memF hF
  have hlen:∀ m,m≤n→((List.range m).flatMap el).length=m*2:=by
   intro m
   induction m with
   | zero=>intro _;rfl
   | succ m ih=>intro hm;rw[List.range_succ,List.flatMap_append,List.length_append,ih qO,List.flatMap_singleton,hel m qO];omega
  have hflat:∀ m,m≤n→∀ j u,((List.range m).flatMap el)[j]?=some u→0<n→cs[off+j]?=some u:=by
   intro m
   induction m with
   | zero=>intro _ j u hj;cases hj
   | succ m ih =>
     intro hm j u hj h0
     rw[List.range_succ,List.flatMap_append,List.flatMap_singleton] at hj
     by_cases hjm:j<m*2
     ·rw[List.getElem?_append_left (by rw[hlen m qO];exact hjm)] at hj
      exact ih qO j u hj h0
     ·rw[List.getElem?_append_right (by rw[hlen m qO];omega),hlen m qO] at hj
      have h2:=((hs h0).2.2 m qO).2
      rw[← h2,List.getElem?_take] at hj
      split at hj
      ·rw[List.getElem?_drop] at hj
       rw[show off+j=off+m*2+(j - m*2) by omega];exact hj
      ·cases hj
  have hsrc:∀ w,Mem w F→Src w (.slice a n cap) n ((List.range n).flatMap el):=by
   intro w hM
   rcases Nat.eq_zero_or_pos n with h0|h0
   ·subst h0
    cases a with
    | none=>cases h
    | some a=>exact .inl ⟨a,cap,rfl,fun j u hj=>by cases hj⟩
   ·obtain⟨rfl,hm,_⟩:=hs h0
    refine .inl ⟨_,_,rfl,fun j u hj=>?_⟩
    rw[zAC,zBq hM hm]
    exact hflat n (zzC _) j u hj h0
  clear hM
  have hone:∀ u∈(List.range n).flatMap el,u.oneCell'=true:=by
   intro u hu;obtain⟨j,hj,hu⟩:=List.mem_flatMap.1 hu;exact h1 j (List.mem_range.1 hj) u hu
  repeat' (first|refine yT ?_|(refine zBy sg H rfl rfl rfl rfl rfl rfl ?_;intro b w H _)|(refine zj sg 2 16 (M:=[]) (G:=[]) H rfl rfl rfl rfl rfl rfl rfl rfl rfl rfl rfl (zTP _ _ _) (hsrc _ (H.memF hF)) (hlen n (zzC _)) hone (by unfold maxLen;omega) qO ?_;intro a' cap' M w hO H;simp only[Nat.zero_add,List.nil_append] at hO;rw[List.append_nil] at H;rw[Nat.zero_add])|refine yU ?_|fail)
  exact zS rfl H ⟨_,_,rfl,hO⟩
theorem zFc {n cap:Nat}{a:Option Addr}{el:Nat→List Value}{F:zC}(w0:World)(hF:Mem w0 F)(hs:SlA F 9 a n cap el)(h1:∀ j,j<n→∀ u∈el j,u.oneCell'=true)(hel:∀ j,j<n→(el j).length=9)(hn:n*88≤140737488355328) :
  Calls Tryz.prog 59 [.slice a n cap].toArray w0 (zi (fun M v=>∃ a' cap',v=.slice a' n cap'∧Go.Sk.Own M 67 9 a' n cap' ((List.range n).flatMap el)) w0):=by
 obtain⟨hnc,hcb,b,off,cs,T,fr,hs⟩:=hs
 refine enter [.tmp 2] Tryz.func59 rfl Tryz.ntmps59 rfl rfl ?_
 have H:=zA w0
 repeat' (first|refine yT ?_|(refine zd rfl rfl (Yq.nilS sg rfl rfl rfl rfl) ?_)|refine yU ?_|fail)
 refine zD rfl (fun h=>?_) (fun h=>?_)
 ·have hn0:n=0:=by
   rcases Nat.eq_zero_or_pos n with h0|h0
   ·exact h0
   ·rw[(hs h0).1] at h;cases h
  subst hn0
  repeat' (first|refine yT ?_|refine yU ?_|fail)
  exact zS rfl H ⟨_,_,rfl,zTP _ _ _⟩
 ·have hM:=H.memF hF
  have hlen:∀ m,m≤n→((List.range m).flatMap el).length=m*9:=by
   intro m
   induction m with
   | zero=>intro _;rfl
   | succ m ih=>intro hm;rw[List.range_succ,List.flatMap_append,List.length_append,ih qO,List.flatMap_singleton,hel m qO];omega
  have hflat:∀ m,m≤n→∀ j u,((List.range m).flatMap el)[j]?=some u→0<n→cs[off+j]?=some u:=by
   intro m
   induction m with
   | zero=>intro _ j u hj;cases hj
   | succ m ih =>
     intro hm j u hj h0
     rw[List.range_succ,List.flatMap_append,List.flatMap_singleton] at hj
     by_cases hjm:j<m*9
     ·rw[List.getElem?_append_left (by rw[hlen m qO];exact hjm)] at hj
      exact ih qO j u hj h0
     ·rw[List.getElem?_append_right (by rw[hlen m qO];omega),hlen m qO] at hj
      have h2:=((hs h0).2.2 m qO).2
      rw[← h2,List.getElem?_take] at hj
      split at hj
      ·rw[List.getElem?_drop] at hj
       rw[show off+j=off+m*9+(j - m*9) by omega];exact hj
      ·cases hj
  have hsrc:∀ w,Mem w F→Src w (.slice a n cap) n ((List.range n).flatMap el):=by
   intro w hM
   rcases Nat.eq_zero_or_pos n with h0|h0
   ·subst h0
    cases a with
    | none=>cases h
    | some a=>exact .inl ⟨a,cap,rfl,fun j u hj=>by cases hj⟩
   ·obtain⟨rfl,hm,_⟩:=hs h0
    refine .inl ⟨_,_,rfl,fun j u hj=>?_⟩
    rw[zAC,zBq hM hm]
    exact hflat n (zzC _) j u hj h0
  clear hM
  have hone:∀ u∈(List.range n).flatMap el,u.oneCell'=true:=by
   intro u hu;obtain⟨j,hj,hu⟩:=List.mem_flatMap.1 hu;exact h1 j (List.mem_range.1 hj) u hu
  repeat' (first|refine yT ?_|(refine zBy sg H rfl rfl rfl rfl rfl rfl ?_;intro b w H _)|(refine zj sg 9 88 (M:=[]) (G:=[]) H rfl rfl rfl rfl rfl rfl rfl rfl rfl rfl rfl (zTP _ _ _) (hsrc _ (H.memF hF)) (hlen n (zzC _)) hone (by unfold maxLen;omega) qO ?_;intro a' cap' M w hO H;simp only[Nat.zero_add,List.nil_append] at hO;rw[List.append_nil] at H;rw[Nat.zero_add])|refine yU ?_|fail)
  exact zS rfl H ⟨_,_,rfl,hO⟩
theorem zFd {n cap:Nat}{a:Option Addr}{el:Nat→List Value}{f:FuncId}{caps:List Value}{F:zC}(p:Nat→Bool)(w0:World)(hF:Mem w0 F)(hs:SlA F 6 a n cap el)(hf:Ent Tryz.prog f)
  (hp:∀ j,j<n→∀ w,Cl w0 w→Calls Tryz.prog f ([Value.agg (el j).toArray]++caps).toArray w (Ret (.bool (p j)) w)) :
  Calls Tryz.prog 72 [.slice a n cap,.func (.func f) #[] caps.toArray].toArray w0 (Ret (.int .i64 (idx p n)) w0):=by
 obtain⟨hn,hc,b,off,cs,T,fr,hs⟩:=hs
 refine enter [.tmp 4] Tryz.func72 rfl Tryz.ntmps72 rfl rfl ?_
 have H:=zA w0
 repeat' (first|refine yT ?_|refine yU ?_|with_reducible apply zB|fail)
 refine zI [(4,5),(8,18)] (fun k:Nat=>[(8,.int .i64 (k:Int))]) (fun k w=>k≤n∧(∀ j,j<k→p j=false)∧St w0 [] w) (fun k=>n - k) 0 ⟨rfl,trivial⟩ ⟨zzD _,fun j hj=>by omega,H⟩ ?_
 clear H
 rintro k g w ⟨hk,hpk,H⟩
 repeat' (first|refine yT ?_|refine yU ?_|fail)
 refine zD rfl (fun h=>?_) (fun h=>?_)
 ·have hlt:k<n:=by simpa using h
  repeat' (first|refine yT ?_|(refine zd rfl rfl (zG sg hs rfl rfl rfl rfl rfl rfl rfl rfl qO qO) ?_)|(refine zd rfl rfl (zAn sg hs (H.memF hF) rfl rfl rfl rfl rfl hlt) ?_)|(refine OX.call rfl rfl (zBT hf rfl rfl rfl) (hp k hlt _ H.cl) ?_;refine w2 H ?_;clear H;intro w H)|refine yU ?_|with_reducible apply zB|fail)
  refine zD rfl (fun h2=>?_) (fun h2=>?_)
  ·repeat' (first|refine yT ?_|refine yU ?_|fail)
   exact zP rfl H.cl (by rw[zBh hlt hpk h2])
  ·repeat' (first|refine yT ?_|refine yU ?_|fail)
   refine zF (k+1) rfl ⟨zf qO,trivial⟩ ⟨hlt,fun j hj=>?_,H⟩ qO
   by_cases hj':j=k
   ·rw[hj',h2]
   ·exact hpk j qO
 ·repeat' (first|refine yT ?_|refine yU ?_|fail)
  have hkn:k=n:=by simp at h;omega
  exact zP rfl H.cl (by rw[zAo (hkn ▸ hpk)])
theorem zDV {n cap:Nat}{a:Option Addr}{el:Nat→List Value}{f:FuncId}{caps:List Value}{F:zC}(p:Nat→Bool)(w0:World)(hF:Mem w0 F)(hs:SlA F 6 a n cap el)(hf:Ent Tryz.prog f)
  (hp:∀ j,j<n→∀ w,Cl w0 w→Calls Tryz.prog f ([Value.agg (el j).toArray]++caps).toArray w (Ret (.bool (p j)) w)) :
  Calls Tryz.prog 68 [.slice a n cap,.func (.func f) #[] caps.toArray].toArray w0 (Ret (.bool (decide (idx p n ≥ 0))) w0):=by
 refine enter [.tmp 4] Tryz.func68 rfl Tryz.ntmps68 rfl rfl ?_
 have H:=zA w0
 repeat' (first|refine yT ?_|(refine' y30 zQc ?_ ?_;rotate_left;exact zFd p _ (H.memF hF) hs hf (fun j hj w' hw'=>hp j hj w' (H.cl.trans hw'));refine w2 H ?_;clear H;intro w H)|refine yU ?_|fail)
 all_goals exact zP rfl H.cl rfl
theorem zD3 {n cap:Nat}{a:Option Addr}{el:Nat→List Value}{f:FuncId}{caps:List Value}{F:zC}(p:Nat→Bool)(w0:World)(hF:Mem w0 F)(hs:SlA F 4 a n cap el)(hf:Ent Tryz.prog f)
  (hp:∀ j,j<n→∀ w,Cl w0 w→Calls Tryz.prog f ([Value.agg (el j).toArray]++caps).toArray w (Ret (.bool (p j)) w)) :
  Calls Tryz.prog 224 [.slice a n cap,.func (.func f) #[] caps.toArray].toArray w0 (Ret (.int .i64 (idx p n)) w0):=by
 obtain⟨hn,hc,b,off,cs,T,fr,hs⟩:=hs
 refine enter [.tmp 4] Tryz.func224 rfl Tryz.ntmps224 rfl rfl ?_
 have H:=zA w0
 repeat' (first|refine yT ?_|refine yU ?_|with_reducible apply zB|fail)
 refine zI [(4,5),(8,18)] (fun k:Nat=>[(8,.int .i64 (k:Int))]) (fun k w=>k≤n∧(∀ j,j<k→p j=false)∧St w0 [] w) (fun k=>n - k) 0 ⟨rfl,trivial⟩ ⟨zzD _,fun j hj=>by omega,H⟩ ?_
 clear H
 rintro k g w ⟨hk,hpk,H⟩
 repeat' (first|refine yT ?_|refine yU ?_|fail)
 refine zD rfl (fun h=>?_) (fun h=>?_)
 ·have hlt:k<n:=by simpa using h
  repeat' (first|refine yT ?_|(refine zd rfl rfl (zG sg hs rfl rfl rfl rfl rfl rfl rfl rfl qO qO) ?_)|(refine zd rfl rfl (zAn sg hs (H.memF hF) rfl rfl rfl rfl rfl hlt) ?_)|(refine OX.call rfl rfl (zBT hf rfl rfl rfl) (hp k hlt _ H.cl) ?_;refine w2 H ?_;clear H;intro w H)|refine yU ?_|with_reducible apply zB|fail)
  refine zD rfl (fun h2=>?_) (fun h2=>?_)
  ·repeat' (first|refine yT ?_|refine yU ?_|fail)
   exact zP rfl H.cl (by rw[zBh hlt hpk h2])
  ·repeat' (first|refine yT ?_|refine yU ?_|fail)
   refine zF (k+1) rfl ⟨zf qO,trivial⟩ ⟨hlt,fun j hj=>?_,H⟩ qO
   by_cases hj':j=k
   ·rw[hj',h2]
   ·exact hpk j qO
 ·repeat' (first|refine yT ?_|refine yU ?_|fail)
  have hkn:k=n:=by simp at h;omega
  exact zP rfl H.cl (by rw[zAo (hkn ▸ hpk)])
theorem zIc {n cap:Nat}{a:Option Addr}{el:Nat→List Value}{f:FuncId}{caps:List Value}{F:zC}(p:Nat→Bool)(w0:World)(hF:Mem w0 F)(hs:SlA F 4 a n cap el)(hf:Ent Tryz.prog f)
  (hp:∀ j,j<n→∀ w,Cl w0 w→Calls Tryz.prog f ([Value.agg (el j).toArray]++caps).toArray w (Ret (.bool (p j)) w)) :
  Calls Tryz.prog 189 [.slice a n cap,.func (.func f) #[] caps.toArray].toArray w0 (Ret (.bool (decide (idx p n ≥ 0))) w0):=by
 refine enter [.tmp 4] Tryz.func189 rfl Tryz.ntmps189 rfl rfl ?_
 have H:=zA w0
 repeat' (first|refine yT ?_|(refine' y30 zJg ?_ ?_;rotate_left;exact zD3 p _ (H.memF hF) hs hf (fun j hj w' hw'=>hp j hj w' (H.cl.trans hw'));refine w2 H ?_;clear H;intro w H)|refine yU ?_|fail)
 all_goals exact zP rfl H.cl rfl
theorem zId {n cap:Nat}{a:Option Addr}{el:Nat→List Value}{f:FuncId}{caps:List Value}{F:zC}(p:Nat→Bool)(w0:World)(hF:Mem w0 F)(hs:SlA F 9 a n cap el)(hf:Ent Tryz.prog f)
  (hp:∀ j,j<n→∀ w,Cl w0 w→Calls Tryz.prog f ([Value.agg (el j).toArray]++caps).toArray w (Ret (.bool (p j)) w)) :
  Calls Tryz.prog 195 [.slice a n cap,.func (.func f) #[] caps.toArray].toArray w0 (Ret (.bool (decide (idx p n ≥ 0))) w0):=by
 refine enter [.tmp 4] Tryz.func195 rfl Tryz.ntmps195 rfl rfl ?_
 have H:=zA w0
 repeat' (first|refine yT ?_|(refine' y30 zKt ?_ ?_;rotate_left;exact zD2 p _ (H.memF hF) hs hf (fun j hj w' hw'=>hp j hj w' (H.cl.trans hw'));refine w2 H ?_;clear H;intro w H)|refine yU ?_|fail)
 all_goals exact zP rfl H.cl rfl
def zB7 (x y:Int):Int:=if x<y then -1 else if x>y then 1 else 0
theorem zFw (x y:Int):decide (zB7 x y<0)=decide (x<y):=by
 unfold zB7
 split
 ·simp[*]
 ·split<;>simp[*]
theorem zTU (x:Int)(w:World):Calls Tryz.prog 94 [.int .i64 x].toArray w (Ret (.bool false) w):=by
 refine enter [.tmp 2] Tryz.func94 rfl Tryz.ntmps94 rfl rfl ?_
 have H:=zA w
 repeat' (first|refine yT ?_|refine yU ?_|fail)
 exact zP rfl H.cl (by simp)
theorem zDf (x y:Int)(w:World):Calls Tryz.prog 63 [.int .i64 x,.int .i64 y].toArray w (Ret (.int .i64 (zB7 x y)) w):=by
 refine enter [.tmp 4] Tryz.func63 rfl Tryz.ntmps63 rfl rfl ?_
 have H:=zA w
 repeat' (first|refine yT ?_|(refine' y30 ent94 ?_ ?_;rotate_left;exact zTU _ _;refine w2 H ?_;clear H;intro w H)|refine yU ?_|(refine y23 ?_ ?_;all_goals intro h)|fail)
 all_goals simp only[decide_eq_true_eq,decide_eq_false_iff_not] at *
 all_goals exact zP rfl H.cl (congrArg (Value.int .i64) (by unfold zB7;split<;>(try split)<;>omega))
theorem zQ3 (x:Int)(w:World):Calls Tryz.prog 250 [.int .i64 x].toArray w (Ret (.bool false) w):=by
 refine enter [.tmp 2] Tryz.func250 rfl Tryz.ntmps250 rfl rfl ?_
 have H:=zA w
 repeat' (first|refine yT ?_|refine yU ?_|fail)
 exact zP rfl H.cl (by simp)
theorem zMP (x y:Int)(w:World):Calls Tryz.prog 235 [.int .i64 x,.int .i64 y].toArray w (Ret (.int .i64 (zB7 x y)) w):=by
 refine enter [.tmp 4] Tryz.func235 rfl Tryz.ntmps235 rfl rfl ?_
 have H:=zA w
 repeat' (first|refine yT ?_|(refine' y30 ent250 ?_ ?_;rotate_left;exact zQ3 _ _;refine w2 H ?_;clear H;intro w H)|refine yU ?_|(refine y23 ?_ ?_;all_goals intro h)|fail)
 all_goals simp only[decide_eq_true_eq,decide_eq_false_iff_not] at *
 all_goals exact zP rfl H.cl (congrArg (Value.int .i64) (by unfold zB7;split<;>(try split)<;>omega))
end Go.Proofs.YthbflajpdhgfiaaGreatDoor
namespace Go.Sk
section
open Go Go.RowKit
section
attribute [local semireducible] OX OW QX QW RA
variable {P:Program}{n:Nw}{ops:Array Oper}{Q:zAQ}{o:Oper}{rest:List Oper}{L:List (Nat × Value)}{b0:Env}{w:World}(S:Sig P)
end
section
variable {P:Program}{n:Nw}{ops:Array Oper}{Q:zAQ}{K:Env→World→Prop}{o:Oper}{rest:List Oper}{L:List (Nat × Value)}{b:Env}{w:World}(S:Sig P)
theorem y46 {F:zC}{a:Option Addr}{m b' off:Nat}{cs:List Value}{T:TypeId}{fr:Nat × Nat}{el:Nat→List Value}{d:Nat}{t:TypeId}{x:Operand}{j:Nat}{ti:TI}{v:Value}(hs:SlB F 1 a m b' off cs T fr el)(hM:Mem w F)(hj:j<m)
  (kk:OW P n ops Q rest (ovl ((d,v)::L) b) w) (hd:o.dst=some d:=by exact rfl) (hlt:Nat.blt d n.n=true:=by exact rfl) (ho:o.op=.load t x:=by exact rfl) (hx:ev (ovl L b) x=.pointer (some ⟨b',off+j*1,none⟩):=by exact rfl) (ht:lk S.tab t=some ti:=by exact rfl) (hag:zBS ti.d=false:=by exact rfl) (hv:(match (el j)[0]? with|some v=>nf v|none=>none)=some v:=by exact rfl):OX P n ops Q o rest (ovl L b) w :=
 zd hd hlt (Yq.loadB1 S hs hM ho hx ht hag hj hv) kk
end
end
section
open Go Go.RowKit
def eqV:Value→Value→Option Bool
 | .int k a,.int k' b=>bif kEq k k' then some (a==b) else none
 | .bool a,.bool b=>some (a==b)
 | .string a,.string b=>some (a.toList==b.toList)
 | _,_=>none
def zFx:TypeDesc→Value→Bool
 | .int _,.int _ _=>true
 | .bool,.bool _=>true
 | .string,.string _=>true
 | _,_=>false
def eqF (ty:Tab)(cs ds:List Value):List Field→Option Bool
 | []=>some true
 | f::r=>match lk ty f.type,cs[f.offset]?,ds[f.offset]? with
   | some ti,some x,some y=>bif zFx ti.d x&&zFx ti.d y then
     (match eqV x y,eqF ty cs ds r with
     | some b,some b'=>some (b&&b')
     | _,_=>none)
     else none
   | _,_,_=>none
theorem zKw {d:TypeDesc}{x:Value}(h:zFx d x=true):zBS d=false:=by
 cases d<;>cases x<;>first|rfl|cases h
section
variable {P:Program}(S:Sig P)
theorem zMQ {t:TypeId}{ti:TI}(ht:lk S.tab t=some ti){x y:Value}{b:Bool}(hx:zFx ti.d x=true)(hy:zFx ti.d y=true)(h:eqV x y=some b)(d:Nat)(w:World):(Op.equalIn (d+1) t x y).run P w=.ok b w:=by
 have hu:=S.und ht
 cases hd:ti.d<;>rw[hd] at hx hy hu<;>cases x<;>simp only[zFx] at hx<;>try (cases hx;done)
 all_goals cases y<;>simp only[zFx] at hy<;>try (cases hy;done)
 all_goals simp only[eqV] at h
 ·cases h
  exact run_equalIn_bool w d t _ _ hu
 ·rename_i k' k a k2 b2
  cases hk:kEq k k2 with
  | false=>rw[hk] at h;cases h
  | true =>
    rw[hk] at h
    cases h
    obtain rfl:k=k2:=zzA hk
    exact run_equalIn_int w d t _ _ _ _ hu
 ·cases h
  exact run_equalIn_string w d t _ _ hu
theorem zQ4 (cs ds:List Value)(d:Nat)(w:World):∀ (fs:List Field) (r:Bool),fs.all (fun f=>f.name != "_")=true→eqF S.tab cs ds fs=some r→(Op.eqFields (d+1) cs.toArray ds.toArray fs).run P w=.ok r w
 | [],r,_,h=>by cases h;rfl
 | f::fs,r,hn,h=>by
   simp only[List.all_cons,Bool.and_eq_true,bne_iff_ne,ne_eq] at hn
   unfold eqF at h
   split at h
   ·rename_i ti x y ht hx hy
    cases hf:(zFx ti.d x&&zFx ti.d y) with
    | false=>rw[hf] at h;cases h
    | true =>
      rw[hf] at h
      simp only[Bool.and_eq_true] at hf
      simp only[cond_true] at h
      split at h
      ·rename_i b b' hb hb'
       cases h
       have p1:=zDx S ht cs.toArray f.offset (v:=x) (by rw[zKw hf.1];simpa using hx) w
       have p2:=zDx S ht ds.toArray f.offset (v:=y) (by rw[zKw hf.1];simpa using hy) w
       have e:=zMQ S ht hf.1 hf.2 hb d w
       have ih:=zQ4 cs ds d w fs b' (by simpa using hn.2) hb'
       simp only[Op.eqFields,hn.1,ne_eq,not_false_eq_true,if_true,Sem.run_bind,p1,p2,e,Result.andThen_ok]
       cases b
       ·rfl
       ·simpa using ih
      ·cases h
   ·cases h
theorem zNl {t:TypeId}{ti:TI}{fs:Array Field}(ht:lk S.tab t=some ti)(htd:ti.d=.struct fs)(st:P.stoodInHeld t=false)(hn:fs.toList.all (fun f=>f.name != "_")=true){cs ds:List Value}{r:Bool}(h:eqF S.tab cs ds fs.toList=some r)(w:World) :
  (Op.equalIn 10000 t (.agg cs.toArray) (.agg ds.toArray)).run P w=.ok r w:=by
 have hu:=S.und ht
 rw[htd] at hu
 have hf:P.fieldsOf t=fs:=by unfold Program.fieldsOf;rw[hu]
 have h2:=run_equalIn_struct (P:=P) w 9999 t cs.toArray ds.toArray (by rw[hf];exact hu) st
 rw[hf] at h2
 exact h2.trans (zQ4 S cs ds 9998 w fs.toList r hn h)
end
end
section
open Go Go.RowKit
def zGS (s:ByteArray)(j:Nat):Nat:=(s.data.getD j 0).toNat
section
attribute [local semireducible] Yq
variable {P:Program}(S:Sig P){o:Oper}{e:Env}{w:World}
end
end
end Go.Sk
namespace Go.Proofs.YthbflajpdhgfiaaGreatDoor
section
open Go Go.Sk Go.RowKit
structure Ac where
 name:ByteArray
 opn:Bool
 deriving Inhabited
def Ac.cells (x:Ac):List Value:=[.string x.name,.bool x.opn]
structure Ins where
 name:ByteArray
 tick:Int
 halted:Bool
 deriving Inhabited
def Ins.cells (x:Ins):List Value:=[.string x.name,.int .i64 x.tick,.bool x.halted]
structure Row4 where
 acct:Int
 asset:Int
 free:Int
 held:Int
 deriving DecidableEq,Inhabited
def Row4.cells (x:Row4):List Value:=[.int .i64 x.acct,.int .i64 x.asset,.int .i64 x.free,.int .i64 x.held]
structure Odr where
 id:Int
 acct:Int
 inst:Int
 side:Int
 price:Int
 left:Int
 deriving DecidableEq,Inhabited
def Odr.cells (x:Odr):List Value:=[.int .i64 x.id,.int .i64 x.acct,.int .i64 x.inst,.int .u8 x.side,.int .i64 x.price,.int .i64 x.left]
def ac_ (l:List Ac)(j:Nat):Ac:=l.getD j default
def in_ (l:List Ins)(j:Nat):Ins:=l.getD j default
def rw_ (l:List Row4)(j:Nat):Row4:=l.getD j default
def od_ (l:List Odr)(j:Nat):Odr:=l.getD j default
def acl (l:List Ac)(j:Nat):List Value:=(ac_ l j).cells
def ing (l:List Ins)(j:Nat):List Value:=(in_ l j).cells
def rwl (l:List Row4)(j:Nat):List Value:=(rw_ l j).cells
def odl (l:List Odr)(j:Nat):List Value:=(od_ l j).cells
def okB (n:Nat):Bool:=(decide (97≤n)&&decide (n≤122))||(decide (48≤n)&&decide (n≤57))||n==45||n==95
def zKx (s:ByteArray)(k:Nat):Bool:=(List.range k).all fun j=>okB (zGS s j)
def zAI (s:ByteArray):Bool:=decide (1≤s.size)&&decide (s.size≤24)&&zKx s s.size
theorem zO2 (s:ByteArray)(k:Nat):zKx s (k+1)=(zKx s k&&okB (zGS s k)):=by
 unfold zKx
 rw[List.range_succ,List.all_append]
 simp
theorem zQ5 {s:ByteArray}{k n:Nat}(h:okB (zGS s k)=false)(hk:k<n):zKx s n=false:=by
 unfold zKx
 rw[List.all_eq_false]
 exact⟨k,List.mem_range.2 hk,by simp[h]⟩
theorem zTV (n:Nat):okB n=true↔((97≤n∧n≤122)∨(48≤n∧n≤57)∨n=45∨n=95):=by
 simp only[okB,Bool.or_eq_true,Bool.and_eq_true,decide_eq_true_eq,beq_iff_eq]
 omega
end
section
open Go Go.Sk Go.RowKit
attribute [local irreducible] Go.Calls
def zHh (n m:Int):Bool:=decide (1≤n)&&decide (n≤m)
theorem c_betw (n m:Int)(w:World):Calls Tryz.prog 101 [.int .i64 n,.int .i64 m].toArray w (Ret (.bool (zHh n m)) w):=by
 refine enter [.tmp 4] Tryz.func101 rfl Tryz.ntmps101 rfl rfl ?_
 have H:=zA w
 repeat' (first|refine yT ?_|refine yU ?_|(refine y17 ?_ ?_;all_goals intro h)|fail)
 all_goals simp only[decide_eq_true_eq,decide_eq_false_iff_not,ge_iff_le] at *
 all_goals exact zP rfl H.cl (congrArg Value.bool (by unfold zHh;simp only[*,decide_true,decide_false,Bool.true_and,Bool.and_true,Bool.false_and,Bool.and_false]))
theorem zTW (n m:Int)(w:World):Calls Tryz.prog 102 [.int .i64 n,.int .i64 m].toArray w (Ret (.bool (zHh n m)) w):=by
 refine enter [.tmp 4] Tryz.func102 rfl Tryz.ntmps102 rfl rfl ?_
 have H:=zA w
 repeat' (first|refine yT ?_|refine yU ?_|(refine y17 ?_ ?_;all_goals intro h)|fail)
 all_goals simp only[decide_eq_true_eq,decide_eq_false_iff_not,ge_iff_le] at *
 all_goals exact zP rfl H.cl (congrArg Value.bool (by unfold zHh;simp only[*,decide_true,decide_false,Bool.true_and,Bool.and_true,Bool.false_and,Bool.and_false]))
def zw (o:Odr):Bool:=zHh o.id 1099511627776&&zHh o.acct 64&&zHh o.inst 16&&(o.side==1||o.side==2)&&zHh o.price 1073741824&&zHh o.left 1048576
theorem zQ6 (n m:Int):zHh n m=true↔(1≤n∧n≤m):=by simp[zHh]
def zAX (o:Odr):Prop:=(1≤o.id∧o.id≤1099511627776)∧(1≤o.acct∧o.acct≤64)∧(1≤o.inst∧o.inst≤16)∧(o.side=1∨o.side=2)∧(1≤o.price∧o.price≤1073741824)∧(1≤o.left∧o.left≤1048576)
theorem zAf (o:Odr):zw o=true↔zAX o:=by
 unfold zw zAX
 simp only[Bool.and_eq_true,Bool.or_eq_true,zQ6,beq_iff_eq,and_assoc]
theorem zBM (o:Odr)(w0:World):Calls Tryz.prog 70 [.agg o.cells.toArray].toArray w0 (Ret (.bool (zw o)) w0):=by
 refine enter [.tmp 2] Tryz.func70 rfl Tryz.ntmps70 rfl rfl ?_
 have H:=zA w0
 repeat' (first|refine yT ?_|refine y7 sg H ?_|(refine y9 H ?_;intro b w H)|(refine' y30 ent102 ?_ ?_;rotate_left;exact zTW _ _ _;refine w2 H ?_;clear H;intro w H)|(refine' y30 ent101 ?_ ?_;rotate_left;exact c_betw _ _ _;refine w2 H ?_;clear H;intro w H)|refine yU ?_|(refine y17 ?_ ?_;all_goals intro h)|fail)
 all_goals exact zP rfl H.cl (congrArg Value.bool (by unfold zw;simp only[*,Bool.true_and,Bool.and_true,Bool.false_and,Bool.and_false,Bool.true_or,Bool.false_or,Bool.or_true,Bool.or_false]))
def zQ7 (l:List Odr)(k:Nat):Bool:=!zw (od_ l k)||(decide (0<k)&&decide ((od_ l k).id≤(od_ l (k - 1)).id))
def ze (l:List Odr):Bool:=decide (l.length≤128)&&(List.range l.length).all fun k=>!zQ7 l k
def Ords (F:zC)(a:Option Addr)(cap:Nat)(l:List Odr):Prop:=SlA F 6 a l.length cap (odl l)
def OrdP (l:List Odr)(k:Nat):Prop:=∀ j,j<k→zAX (od_ l j)∧(j=0∨(od_ l (j - 1)).id<(od_ l j).id)
theorem zO3 {l:List Odr}{k:Nat}:zQ7 l k=false↔zAX (od_ l k)∧(k=0∨(od_ l (k - 1)).id<(od_ l k).id):=by
 unfold zQ7
 rw[Bool.or_eq_false_iff,Bool.not_eq_false',zAf]
 simp only[Bool.and_eq_false_iff,decide_eq_false_iff_not]
 exact and_congr_right fun _=>by omega
theorem zAh {l:List Odr}:ze l=true↔l.length≤128∧OrdP l l.length:=by
 unfold ze OrdP
 rw[Bool.and_eq_true,decide_eq_true_eq,List.all_eq_true]
 simp only[List.mem_range,Bool.not_eq_true',zO3]
theorem OrdP.succ {l:List Odr}{k:Nat}(h:OrdP l k)(h1:zAX (od_ l k))(h2:k=0∨(od_ l (k - 1)).id<(od_ l k).id):OrdP l (k+1):=fun j hj=>by
 rcases(show j<k∨j=k by omega) with g|rfl
 ·exact h j g
 ·exact⟨h1,h2⟩
theorem zMR {l:List Odr}(h:ze l=true→False):false=ze l:=by
 cases hq:ze l with
 | false=>rfl
 | true=>exact(h hq).elim
theorem zFe {p q:Int}(h1:1≤p)(h2:p≤1073741824)(h3:1≤q)(h4:q≤1048576):1≤p*q∧p*q≤1125899906842624:=by
 have a:=Int.mul_le_mul h1 h3 qO qO
 have b:=Int.mul_le_mul h2 h4 qO qO
 constructor<;>omega
def zY (o:Odr):Int × Int:=if zw o=true then(if o.side=1 then(0,o.price*o.left) else(o.inst,o.left)) else(0,0)
theorem zJh (o:Odr)(w0:World):Calls Tryz.prog 168 [.agg o.cells.toArray].toArray w0 (Ret (.tuple #[.int .i64 (zY o).1,.int .i64 (zY o).2]) w0):=by
 have hp:=zAf o
 refine enter [.tmp 2,.tmp 3] Tryz.func168 rfl Tryz.ntmps168 rfl rfl ?_
 have H:=zA w0
 repeat' (first|refine yT ?_|refine y7 sg H ?_|refine y8 sg H ?_|(refine y9 H ?_;intro b w H)|(refine' y30 zEW ?_ ?_;rotate_left;exact zBM o _;refine w2 H ?_;clear H;intro w H)|refine yU ?_|(with_reducible apply zO;refine w2 H ?_;clear H;intro w H)|refine y20 mixed ?_|with_reducible apply zB|(refine y23 ?_ ?_;all_goals intro h)|fail)
 all_goals simp only[Bool.not_eq_true',Bool.not_eq_false',beq_iff_eq,beq_eq_false_iff_ne,ne_eq] at *
 all_goals first
  | (have hm:¬ zw o=true:=by rw[‹zw o=false›];decide
     exact zFZ rfl rfl H.cl (by unfold zY;rw[if_neg hm]))
  | (have hm:=‹zw o=true›
     obtain⟨_,_,_,_,⟨q1,q2⟩,q3,q4⟩:=hp.1 hm
     obtain⟨b1,b2⟩:=zFe q1 q2 q3 q4
     refine zFZ rfl rfl H.cl ?_
     unfold zY
     rw[if_pos hm]
     first
      | (rw[if_pos ‹_›,w64 qO qO])
      | rw[if_neg ‹_›])
theorem zMS (x y:Odr)(w0:World):Calls Tryz.prog 71 [.agg x.cells.toArray,.agg y.cells.toArray].toArray w0 (Ret (.int .i64 (zB7 x.id y.id)) w0):=by
 refine enter [.tmp 4] Tryz.func71 rfl Tryz.ntmps71 rfl rfl ?_
 have H:=zA w0
 repeat' (first|refine yT ?_|refine y7 sg H ?_|(refine y9 H ?_;intro b w H)|(refine' y30 zKu ?_ ?_;rotate_left;exact zDf _ _ _;refine w2 H ?_;clear H;intro w H)|refine yU ?_|fail)
 exact zP rfl H.cl rfl
theorem zTX (o:Odr)(w0:World):Calls Tryz.prog 69 [.agg o.cells.toArray].toArray w0 (Ret (.bool (!zw o)) w0):=by
 refine enter [.tmp 2] Tryz.func69 rfl Tryz.ntmps69 rfl rfl ?_
 have H:=zA w0
 repeat' (first|refine yT ?_|refine y7 sg H ?_|(refine y9 H ?_;intro b w H)|(refine' y30 zEW ?_ ?_;rotate_left;exact zBM o _;refine w2 H ?_;clear H;intro w H)|refine yU ?_|fail)
 exact zP rfl H.cl rfl
theorem zTY (x y:Int):decide (zB7 x y ≥ 0)=decide (y≤x):=by
 unfold zB7
 split
 ·simp;omega
 ·split<;>simp<;>omega
theorem zAk {a:Option Addr}{cap:Nat}(l:List Odr){F:zC}(w0:World)(hF:Mem w0 F)(hs0:Ords F a cap l) :
  Calls Tryz.prog 36 [.slice a l.length cap].toArray w0 (Ret (.bool (ze l)) w0):=by
 obtain⟨hnc,hcb,b0,off,cs,T,fr,hs⟩:=id hs0
 have cont:∀ {w:World},Mem w F→Calls Tryz.prog 68 [.slice a l.length cap,.func (.func 69) #[] #[]].toArray w (Ret (.bool (decide (idx (fun j=>!zw (od_ l j)) l.length ≥ 0))) w):=fun hF =>
  zDV (caps:=[]) (fun j=>!zw (od_ l j)) _ hF hs0 ent69 (fun j _ w _=>zTX (od_ l j) w)
 have hno:idx (fun j=>!zw (od_ l j)) l.length ≥ 0→ze l=true→False:=fun h q=>by
  rcases zZ (fun j=>!zw (od_ l j)) l.length with ⟨k,hk,_,hb,_⟩|⟨_,hx⟩
  ·have:=((zAh.1 q).2 k hk).1
   rw[(zAf _).2 this] at hb;cases hb
  ·omega
 have hyes:¬ idx (fun j=>!zw (od_ l j)) l.length ≥ 0→∀ j,j<l.length→zAX (od_ l j):=fun h j hj=>by
  rcases zZ (fun j=>!zw (od_ l j)) l.length with ⟨k,_,_,_,hx⟩|⟨ha,_⟩
  ·omega
  ·have:=ha j hj
   exact(zAf _).1 (by simpa using this)
 refine enter [.tmp 2] Tryz.func36 rfl Tryz.ntmps36 rfl rfl ?_
 have H:=zA w0
 repeat' (first|refine yT ?_|(refine' y30 zNk ?_ ?_;rotate_left;exact cont (H.memF hF);refine w2 H ?_;clear H;intro w H)|refine yU ?_|(refine y17 ?_ ?_;all_goals intro h)|fail)
 ·exact zP rfl H.cl (congrArg Value.bool (zMR fun q=>by have:=(zAh.1 q).1;have:=zzA h;omega))
 have h128:l.length≤128:=by have:=zzB h;omega
 refine zD rfl (fun h2=>?_) (fun h2=>?_)
 ·repeat' (first|refine yT ?_|refine yU ?_|fail)
  exact zP rfl H.cl (congrArg Value.bool (zMR (hno (zzA h2))))
 have hall:=hyes (zzB h2)
 clear hno hyes cont h h2
 have hmin:(if ((l.length:Nat):Int)<1 then((l.length:Nat):Int) else 1)=((min 1 l.length:Nat):Int):=by split<;>omega
 repeat' (first|refine yT ?_|refine yU ?_|fail)
 rw[hmin]
 repeat' (first|refine yT ?_|(refine zd rfl rfl (Yq.sliceLo sg rfl rfl rfl rfl rfl rfl (zz1 _) qO qO) ?_)|refine yU ?_|with_reducible apply zB|fail)
 refine zI [(2,3),(17,31)] (fun k:Nat=>[(17,.int .i64 (k:Int))]) (fun k w=>k≤l.length - min 1 l.length∧OrdP l (k+min 1 l.length)∧St w0 [] w) (fun k=>l.length - k) 0 ⟨rfl,trivial⟩ ⟨zzD _,fun j hj=>⟨hall j qO,.inl qO⟩,H⟩ ?_
 clear H
 rintro k gh w ⟨hk,hP,H⟩
 repeat' (first|refine yT ?_|refine yU ?_|fail)
 refine zD rfl (fun h=>?_) (fun h=>?_)
 ·have hlt:k+1<l.length:=by have:=zzA h;omega
  clear h
  have hm1:min 1 l.length=1:=by omega
  rw[hm1] at hP
  have hq:IntKind.i64.wrap ((k:Int)+1)=((k+1:Nat):Int):=by rw[w64 qO qO];omega
  repeat' (first|refine yT ?_|(refine zT rfl rfl (zG sg hs rfl rfl rfl rfl rfl rfl rfl ((congrArg Int.toNat hq).trans (zz1 _)) (by rw[hq];omega) (by rw[hq];omega)) ?_)|refine x41 sg hs ?_|refine x43 sg hs (H.memF hF) ?_|(refine' y31 zQb ?_ ?_;rotate_left;exact(fun _ hcl=>zMS (od_ l k) (od_ l (k+1)) _))|refine yU ?_|(with_reducible apply zO;refine w2 H ?_;clear H;intro w H)|refine y20 mixed ?_|with_reducible apply zB|fail)
  rw[zTY]
  refine zD rfl (fun h=>?_) (fun h=>?_)
  ·repeat' (first|refine yT ?_|refine yU ?_|fail)
   exact zP rfl H.cl (congrArg Value.bool (zMR fun q=>by
    have:=((zAh.1 q).2 (k+1) hlt).2
    have h:=zzA h
    rw[Nat.add_sub_cancel] at this
    omega))
  ·have h:=zzB h
   repeat' (first|refine yT ?_|refine yU ?_|fail)
   refine zF (k+1) rfl ⟨zf qO,trivial⟩ ⟨by omega,?_,H⟩ qO
   rw[hm1]
   exact hP.succ (hall _ hlt) (.inr (by rw[Nat.add_sub_cancel];omega))
 ·have hkn:k+min 1 l.length=l.length:=by have:=zzB h;omega
  rw[hkn] at hP
  repeat' (first|refine yT ?_|refine yU ?_|fail)
  exact zP rfl H.cl (congrArg Value.bool (zAh.2 ⟨h128,hP⟩).symm)
end
end Go.Proofs.YthbflajpdhgfiaaGreatDoor
namespace Go.Sk
open Go Go.RowKit
section
attribute [local semireducible] Yq OX OW QX QW RA
variable {P:Program}(S:Sig P){o:Oper}{e:Env}{w:World}
theorem Yq.ixP {t E:TypeId}{x i:Operand}{b off n j:Nat}{k:IntKind}{q:Int}{ti te:TI}(hj:q.toNat=j)(h0:0≤q)(h1:q<n)(ho:o.op=.indexAddr t x i)
  (hx:ev e x=.pointer (some ⟨b,off,none⟩)) (hi:ev e i=.int k q) (ht:lk S.tab t=some ti) (htd:ti.d=.array n E) (he:lk S.tab E=some te):Yq P o e w (.pointer (some ⟨b,off+j*te.size,none⟩)):=by
 intro w' _
 have hu:=S.run_und ht w'
 rw[htd] at hu
 simp only[execOp,ho,Instr.indexAt,hx,hi,asIntOf,hu,Instr.sureAddr,Sem.run_bind,Sem.run_pure,Result.andThen_ok,h0,h1,and_self,if_true,S.run_size he,zAC,hj]
def cellsOf (el:Nat→List Value)(n:Nat):List Value:=(List.range n).flatMap el
theorem zO4 {t E:TypeId}{ti te:TI}{n:Nat}{q:IntKind}(ht:lk S.tab t=some ti)(htd:ti.d=.array n E)(he:lk S.tab E=some te)(hed:te.d=.int q)(hsz:te.size=1){k:IntKind}(f g:Nat→Int)(w:World) :
  (Op.equalIn 10000 t (.agg ((List.range n).map fun j=>Value.int k (f j)).toArray) (.agg ((List.range n).map fun j=>Value.int k (g j)).toArray)).run P w=.ok ((List.range n).all fun j=>f j==g j) w:=by
 have hu:=S.run_und ht w
 rw[htd] at hu
 have hs:=S.run_size he w
 rw[hsz] at hs
 have hue:=S.und he
 rw[hed] at hue
 obtain⟨fi,hf1,hf2,_⟩:=S.inf he
 have hc:P.cellsOf E=1:=by unfold Program.cellsOf;rw[hf1];simp[hf2,hsz]
 have hut:=S.und ht
 rw[htd] at hut
 rw[show(10000:Nat)=9999+1 from rfl,run_equalIn_array w 9999 _ _ hut hf1,hc]
 have hp:∀ (h:Nat→Int) (i:Nat),i<n→(part E ((List.range n).map fun j=>Value.int k (h j)).toArray (i*1)).run P w=.ok (.int k (h i)) w:=fun h i hi =>
  zDx S he _ _ (by rw[show zBS te.d=false by rw[hed];rfl];simp[hi]) w
 have hE:∀ i,(Op.equalIn 9999 E (.int k (f i)) (.int k (g i))).run P w=.ok (f i==g i) w:=fun i=>run_equalIn_int w 9998 E _ _ _ _ hue
 have key:∀ (is:List Nat),(∀ i∈is,i<n)→(Op.eqItems 9999 E 1 ((List.range n).map fun j=>Value.int k (f j)).toArray ((List.range n).map fun j=>Value.int k (g j)).toArray is).run P w=.ok (is.all fun j=>f j==g j) w:=by
  intro is
  induction is with
  | nil=>intro _;rfl
  | cons i is ih =>
    intro hi
    have ih:=ih fun x hx=>hi x (zz4 _ hx)
    have h0:=hi i (zz2 _)
    simp only[Op.eqItems,Sem.run_bind,hp f i h0,hp g i h0,hE,Result.andThen_ok,List.all_cons]
    by_cases hfg:f i=g i
    ·simpa [hfg] using ih
    ·simp[hfg]
 exact key _ fun i hi=>List.mem_range.1 hi
theorem Yq.build0 {t E:TypeId}{n:Nat}{ti te:TI}(ho:o.op=.build t #[])(ht:lk S.tab t=some ti)(htd:ti.d=.array n E)(he:lk S.tab E=some te):Yq P o e w (.agg ti.zero.toArray):=by
 intro w' _
 have hu:=S.run_und ht w'
 rw[htd] at hu
 obtain⟨f,h1,_,h3⟩:=S.inf ht
 obtain⟨zv,hz1,hz2⟩:=Option.map_eq_some_iff.1 h3
 have hzv:(zeroValue t).run P w'=.ok zv w':=by simp[zeroValue,typeInfo,h1,hz1]
 simp[execOp,ho,Instr.build,hu,hzv,hz2,S.run_size he,Instr.fill]
def zEc (k:IntKind)(n:Nat)(f:Nat→Int):List Value:=(List.range n).map fun j=>Value.int k (f j)
theorem zFy (k:IntKind)(n:Nat)(f:Nat→Int):(zEc k n f).length=n:=by simp[zEc]
theorem zFz {k:IntKind}{n j:Nat}(f:Nat→Int)(h:j<n):(zEc k n f)[j]?=some (.int k (f j)):=by simp[zEc,h]
def updI (f:Nat→Int)(j:Nat)(v:Int):Nat→Int:=fun i=>if i=j then v else f i
theorem zTZ {k:IntKind}{n j:Nat}(f:Nat→Int)(v:Int)(h:j<n):wr (zEc k n f) (0+j*1) [.int k v]=zEc k n (updI f j v):=by
 apply List.ext_getElem?
 intro i
 rw[zEh (by rw[zFy];simp;omega)]
 simp only[List.length_singleton,Nat.mul_one,Nat.zero_add]
 by_cases hi:i=j
 ·subst hi
  rw[if_pos (by omega),zFz _ h,Nat.sub_self]
  simp[updI]
 ·rw[if_neg (by omega)]
  rcases Nat.lt_or_ge i n with g|g
  ·rw[zFz _ g,zFz _ g];simp[updI,hi]
  ·rw[List.getElem?_eq_none (by rw[zFy];exact g),List.getElem?_eq_none (by rw[zFy];exact g)]
theorem Yq.loadA {M:zC}{t:TypeId}{x:Operand}{b n j:Nat}{T:TypeId}{k:IntKind}{f:Nat→Int}{ti:TI}(hM:Mem w M)(hm:cb b (zEc k n f) T∈M)(hj:j<n)(ho:o.op=.load t x)(hx:ev e x=.pointer (some ⟨b,0+j*1,none⟩))(ht:lk S.tab t=some ti)(hag:zBS ti.d=false):Yq P o e w (.int k (f j)):=by
 refine Yq.load S ho hx hM hm ht ?_
 unfold ldv
 rw[hag]
 simp only[cond_false]
 rw[Nat.mul_one,Nat.zero_add]
 exact zFz f hj
theorem Yq.eqlA {t E:TypeId}{x y:Operand}{yT:TypeId}{n:Nat}{k q:IntKind}{f g:Nat→Int}{ti te:TI}(eg:P.eqGuardType P.depth t=false)(hx:ev e x=.agg (zEc k n f).toArray)(hy:ev e y=.agg (zEc k n g).toArray)
  (ho:o.op=.binOp .eql t x y yT) (ht:lk S.tab t=some ti) (htd:ti.d=.array n E) (he:lk S.tab E=some te) (hed:te.d=.int q) (hsz:te.size=1):Yq P o e w (.bool ((List.range n).all fun j=>f j==g j)):=by
 refine Yq.of fun w'=>?_
 have hr:=zO4 S ht htd he hed hsz (k:=k) f g w'
 have h2:(binOp .eql t (.agg (zEc k n f).toArray) (.agg (zEc k n g).toArray)).run P w'=.ok (.bool ((List.range n).all fun j=>f j==g j)) w':=by
  rw[run_eql_struct]
  unfold zEc
  rw[hr];rfl
 simp only[execOp,ho,hx,hy,Sem.run_bind,run_eqGuard_agg w' _ _ _ _ _ _ eg,Result.andThen_ok,h2,Sem.run_pure]
end
section
variable {P:Program}{n:Nw}{ops:Array Oper}{Q:zAQ}{o:Oper}{rest:List Oper}{L:List (Nat × Value)}{b0:Env}{w:World}(S:Sig P)
theorem OX.storeA {w0:World}{G G':zC}{t:TypeId}{x y:Operand}{b m j:Nat}{T:TypeId}{k:IntKind}{f:Nat→Int}{v:Int}{ti:TI}(H:St w0 G w)(hj:j<m)(hu:Up b (.cells (zEc k m f).toArray T (0,0)) (.cells (zEc k m (updI f j v)).toArray T (0,0)) G G')
  (kk:∀ w',St w0 G' w'→OW P n ops Q rest (ovl L b0) w') (ho:o.op=.store t x y:=by exact rfl) (hd:o.dst=none:=by exact rfl)
  (hx:ev (ovl L b0) x=.pointer (some ⟨b,0+j*1,none⟩):=by exact rfl) (hy:ev (ovl L b0) y=.int k v:=by exact rfl) (ht:lk S.tab t=some ti:=by exact rfl) (hsz:ti.size=1:=by exact rfl):OX P n ops Q o rest (ovl L b0) w:=by
 rw[← zTZ (k:=k) f v hj] at hu
 exact OX.storeX S H ho hd hx hy (v:=.int k v) (vs:=[.int k v]) rfl ht (by rw[hsz];rfl) hu (by rw[zFy];simp;omega) (by intro u hu;rw[List.mem_singleton] at hu;subst hu;rfl) kk
end
end Go.Sk
namespace Go.Proofs.YthbflajpdhgfiaaGreatDoor
open Go Go.Sk Go.RowKit
def zCO (a s:Int):Bool:=decide (0≤a)&&decide (a≤64)&&decide (0≤s)&&decide (s≤16)
theorem zCq (a s:Int):zCO a s=true↔(0≤a∧a≤64∧0≤s∧s≤16):=by
 simp only[zCO,Bool.and_eq_true,decide_eq_true_eq];omega
def plc2 (a s:Int):List Value:=[.int .i64 a,.int .i64 s]
theorem zJi (a s:Int)(w0:World):Calls Tryz.prog 220 [.agg (plc2 a s).toArray].toArray w0 (Ret (.bool (zCO a s)) w0):=by
 refine enter [.tmp 2] Tryz.func220 rfl Tryz.ntmps220 rfl rfl ?_
 have H:=zA w0
 repeat' (first|refine yT ?_|refine y7 sg H ?_|(refine y9 H ?_;intro b w H)|refine yU ?_|(refine y17 ?_ ?_;all_goals intro h)|fail)
 all_goals simp only[decide_eq_true_eq,decide_eq_false_iff_not,ge_iff_le] at *
 all_goals first
  | exact zP rfl H.cl (congrArg Value.bool (by unfold zCO;simp only[*,decide_true,decide_false,Bool.true_and,Bool.and_true,Bool.false_and,Bool.and_false]))
def orF (x y:Int):Int:=if x=0 then y else x
theorem zQ8 {b:Nat}{T:TypeId}{fr:Nat × Nat}{F:zC}(x y:Int)(w0:World)(hF:Mem w0 F)(hm:(b,Obj.cells [Value.int .i64 x,Value.int .i64 y].toArray T fr)∈F) :
  Calls Tryz.prog 75 [.slice (some ⟨b,0,none⟩) 2 2].toArray w0 (Ret (.int .i64 (orF x y)) w0):=by
 have hs:SlB F 1 (some ⟨b,0,none⟩) 2 b 0 [.int .i64 x,.int .i64 y] T fr (fun j=>[.int .i64 (if j=0 then x else y)]):=fun _=>⟨rfl,hm,fun j hj=>by
  have:j=0∨j=1:=by omega
  rcases this with rfl|rfl<;>exact⟨by simp,rfl⟩⟩
 refine enter [.tmp 2] Tryz.func75 rfl Tryz.ntmps75 rfl rfl ?_
 have H:=zA w0
 repeat' (first|refine yT ?_|refine yU ?_|with_reducible apply zB|fail)
 refine zI [(2,2),(5,5),(8,16)] (fun k:Nat=>[(8,.int .i64 (k:Int))]) (fun k w=>k≤2∧(0<k→x=0)∧(1<k→y=0)∧St w0 [] w) (fun k=>2 - k) 0 ⟨rfl,trivial⟩ ⟨zzD _,fun h=>absurd h qO,fun h=>absurd h qO,H⟩ ?_
 clear H
 rintro k gh w ⟨hk,h1,h2,H⟩
 repeat' (first|refine yT ?_|refine yU ?_|fail)
 refine zD rfl (fun h=>?_) (fun h=>?_)
 ·have hlt:k<2:=by have:=zzA h;omega
  clear h
  repeat' (first|refine yT ?_|refine x40 sg hs ?_|(refine y46 sg (hs) ((H.memF hF)) ?_ ?_;(omega))|refine yU ?_|with_reducible apply zB|fail)
  refine zD rfl (fun h=>?_) (fun h=>?_)
  ·repeat' (first|refine yT ?_|refine yU ?_|fail)
   have h:¬ (if k=0 then x else y)=0:=by simpa using h
   refine zP rfl H.cl (congrArg (Value.int .i64) ?_)
   rcases(show k=0∨k=1 by omega) with rfl|rfl
   ·rw[if_pos rfl] at h ⊢;unfold orF;rw[if_neg h]
   ·rw[if_neg qO];unfold orF;rw[if_pos (h1 qO)]
  ·have h:(if k=0 then x else y)=0:=by simpa using h
   repeat' (first|refine yT ?_|refine yU ?_|fail)
   refine zF (k+1) rfl ⟨zf qO,trivial⟩ ⟨hlt,fun _=>?_,fun g=>?_,H⟩ qO
   ·rcases(show k=0∨k=1 by omega) with rfl|rfl
    ·rw[if_pos rfl] at h;exact h
    ·exact h1 qO
   ·obtain rfl:k=1:=by omega
    rw[if_neg qO] at h;exact h
 ·obtain rfl:k=2:=by have:=zzB h;omega
  repeat' (first|refine yT ?_|refine yU ?_|fail)
  exact zP rfl H.cl (congrArg (Value.int .i64) (by unfold orF;rw[h1 qO,if_pos rfl,h2 qO]))
def zMT (a s b t:Int):Int:=orF (zB7 a b) (zB7 s t)
theorem zNm (a s b t:Int):zMT a s b t<0↔(a<b∨a=b∧s<t):=by
 unfold zMT orF zB7
 repeat' split
 all_goals omega
theorem zQ9 (a s b t:Int)(w0:World):Calls Tryz.prog 221 [.agg (plc2 a s).toArray,.agg (plc2 b t).toArray].toArray w0 (Ret (.int .i64 (zMT a s b t)) w0):=by
 refine enter [.tmp 4] Tryz.func221 rfl Tryz.ntmps221 rfl rfl ?_
 have H:=zA w0
 repeat' (first|refine yT ?_|refine y8 sg H ?_|(refine y9 H ?_;intro b w H)|refine y12 ?_|(refine CW.regionR mixed ?_;refine w2 H ?_;clear H;intro w H;(with_reducible apply RW.quiet 10);exact rfl;decide +kernel;simp only[List.append_eq,List.cons_append,List.nil_append,List.take_succ_cons,List.take_zero,List.drop_zero])|(refine' y31 ent235 ?_ ?_;rotate_left;exact(fun _ hcl=>zMP _ _ _))|(refine z14 sg H ?_;intro b w H)|(refine' y30 zQd ?_ ?_;rotate_left;exact zQ8 _ _ _ (H.mem) (zz2 _);refine w2 H ?_;clear H;intro w H)|refine yU ?_|(with_reducible apply zO;refine w2 H ?_;clear H;intro w H)|fail)
 exact zP rfl H.cl rfl
def zAS (acct free held:Int):Int:=if acct=0 then 0 else if free<0∨held<0 then 47 else if free>1125899906842624∨held>1125899906842624∨free+held>1125899906842624 then 41 else 0
theorem zNn (a s f d:Int)(w0:World)(hf1:-9223372036854775808≤f)(hf2:f≤9223372036854775807)(hd1:-9223372036854775808≤d)(hd2:d≤9223372036854775807) :
  Calls Tryz.prog 222 [.agg #[.int .i64 a,.int .i64 s,.int .i64 f,.int .i64 d]].toArray w0 (Ret (.int .i64 (zAS a f d)) w0):=by
 refine enter [.tmp 2] Tryz.func222 rfl Tryz.ntmps222 rfl rfl ?_
 have H:=zA w0
 repeat' (first|refine yT ?_|refine y7 sg H ?_|(refine y9 H ?_;intro b w H)|refine yU ?_|(refine y17 ?_ ?_;all_goals intro h)|with_reducible apply zB|(refine y23 ?_ ?_;all_goals intro h)|fail)
 all_goals simp only[decide_eq_true_eq,decide_eq_false_iff_not,ge_iff_le,gt_iff_lt,beq_iff_eq,beq_eq_false_iff_ne,ne_eq] at *
 all_goals try rw[w64 qO qO] at h
 all_goals exact zP rfl H.cl (congrArg (Value.int .i64) (by unfold zAS;(repeat' split)<;>omega))
def zRA (r:Row4):Bool:=zCO r.acct r.asset&&!(r.free==0&&r.held==0)&&(if r.acct=0 then r.held==0 else decide (0≤r.free)&&decide (0≤r.held)&&decide (r.free+r.held≤1125899906842624))
def zEX (r:Row4):Prop:=(0≤r.acct∧r.acct≤64∧0≤r.asset∧r.asset≤16)∧¬ (r.free=0∧r.held=0)∧(r.acct=0→r.held=0)∧(r.acct≠0→0≤r.free∧0≤r.held∧r.free+r.held≤1125899906842624)
theorem zIr (r:Row4):zRA r=true↔zEX r:=by
 unfold zRA zEX
 rw[Bool.and_eq_true,Bool.and_eq_true,zCq]
 by_cases h:r.acct=0
 ·simp[h];omega
 ·simp[h];omega
def ltR (a b:Row4):Bool:=decide (a.acct<b.acct)||(decide (a.acct=b.acct)&&decide (a.asset<b.asset))
def LtR (a b:Row4):Prop:=a.acct<b.acct∨a.acct=b.acct∧a.asset<b.asset
theorem zTa (a b:Row4):ltR a b=true↔LtR a b:=by simp[ltR,LtR]
def smR (l:List Row4)(a:Int):Nat→Int
 | 0=>0
 | k+1=>smR l a k+if (rw_ l k).asset=a then(rw_ l k).free+(rw_ l k).held else 0
def zNo (l:List Row4)(k:Nat):Bool:=zRA (rw_ l k)&&(k==0||ltR (rw_ l (k - 1)) (rw_ l k))
def zAY (l:List Row4):Bool:=(List.range l.length).all (fun k=>zNo l k)&&(List.range 17).all fun a=>smR l (a:Nat) l.length==0
def RowsP (l:List Row4)(k:Nat):Prop:=∀ j,j<k→zEX (rw_ l j)∧(j=0∨LtR (rw_ l (j - 1)) (rw_ l j))
theorem zIs {l:List Row4}{k:Nat}:zNo l k=true↔zEX (rw_ l k)∧(k=0∨LtR (rw_ l (k - 1)) (rw_ l k)):=by
 unfold zNo
 rw[Bool.and_eq_true,zIr,Bool.or_eq_true,zTa]
 simp
theorem zBi {l:List Row4}:zAY l=true↔RowsP l l.length∧∀ a:Nat,a<17→smR l a l.length=0:=by
 unfold zAY RowsP
 rw[Bool.and_eq_true,List.all_eq_true,List.all_eq_true]
 simp only[List.mem_range,zIs,beq_iff_eq]
theorem RowsP.succ {l:List Row4}{k:Nat}(h:RowsP l k)(h1:zEX (rw_ l k))(h2:k=0∨LtR (rw_ l (k - 1)) (rw_ l k)):RowsP l (k+1):=fun j hj=>by
 rcases(show j<k∨j=k by omega) with g|rfl
 ·exact h j g
 ·exact⟨h1,h2⟩
theorem RowsP.lt {l:List Row4}{k:Nat}(h:RowsP l k):∀ {i j:Nat},i<j→j<k→LtR (rw_ l i) (rw_ l j):=by
 intro i j hij
 induction j with
 | zero=>omega
 | succ j ih =>
   intro hj
   have h2:=(h (j+1) hj).2.resolve_left qO
   rw[Nat.add_sub_cancel] at h2
   rcases(show i=j∨i<j by omega) with rfl|g
   ·exact h2
   ·have h1:=ih g qO
    unfold LtR at *
    omega
def zR (l:List Row4)(a:Int):Nat→Int
 | 0=>0
 | k+1=>zR l a k+if (rw_ l k).asset=a∧(rw_ l k).acct=0 then(rw_ l k).free else 0
def pR (l:List Row4)(a:Int):Nat→Int
 | 0=>0
 | k+1=>pR l a k+if (rw_ l k).asset=a∧(rw_ l k).acct≠0 then(rw_ l k).free+(rw_ l k).held else 0
theorem zE9 {l:List Row4}{a:Int}:∀ {k:Nat},RowsP l k→smR l a k=zR l a k+pR l a k
 | 0,_=>rfl
 | k+1,h=>by
   have ih:=zE9 (a:=a) (fun j hj=>h j qO:RowsP l k)
   have hg:=(h k (Nat.lt_succ_self k)).1.2.2.1
   simp only[smR,zR,pR,ih]
   by_cases h1:(rw_ l k).asset=a
   ·by_cases h2:(rw_ l k).acct=0
    ·have:=hg h2;simp[h1,h2,this];omega
    ·simp[h1,h2];omega
   ·simp[h1]
theorem zNp {l:List Row4}{a:Int}:∀ {k:Nat},RowsP l k→∃ m:Int,0≤m∧m≤64∧0≤pR l a k∧pR l a k≤1125899906842624*m∧(m=0∨∃ j,j<k∧(rw_ l j).acct=m∧(rw_ l j).asset=a)
 | 0,_=>⟨0,by omega,by omega,by simp[pR],by simp[pR],.inl rfl⟩
 | k+1,h=>by
   obtain⟨m,m1,m2,m3,m4,m5⟩:=zNp (a:=a) (fun j hj=>h j qO:RowsP l k)
   have hg:=(h k (Nat.lt_succ_self k)).1
   simp only[pR]
   by_cases h1:(rw_ l k).asset=a∧(rw_ l k).acct≠0
   ·rw[if_pos h1]
    obtain⟨g1,g2,g3⟩:=hg.2.2.2 h1.2
    have hlt:m<(rw_ l k).acct:=by
     rcases m5 with rfl|⟨j,j1,j2,j3⟩
     ·have:=hg.1.1;omega
     ·have:=h.lt j1 (Nat.lt_succ_self k)
      unfold LtR at this
      omega
    exact⟨(rw_ l k).acct,by omega,hg.1.2.1,by omega,by omega,.inr ⟨k,Nat.lt_succ_self k,rfl,h1.1⟩⟩
   ·rw[if_neg h1]
    exact⟨m,m1,m2,by omega,by omega,m5.imp_right fun⟨j,j1,j2⟩=>⟨j,by omega,j2⟩⟩
theorem zR_no {l:List Row4}{a:Int}:∀ {k:Nat},(∀ j,j<k→¬ ((rw_ l j).asset=a∧(rw_ l j).acct=0))→zR l a k=0
 | 0,_=>rfl
 | k+1,h=>by
   simp only[zR]
   rw[zR_no (fun j hj=>h j qO),if_neg (h k (Nat.lt_succ_self k))];rfl
theorem zJj {l:List Row4}{a:Int}{n j:Nat}(h:RowsP l n)(hj:j<n)(h1:(rw_ l j).asset=a)(h2:(rw_ l j).acct=0):∀ {k:Nat},k≤n→zR l a k=if j<k then(rw_ l j).free else 0
 | 0,_=>by simp[zR]
 | k+1,hk=>by
   have ih:=zJj h hj h1 h2 (k:=k) qO
   simp only[zR,ih]
   rcases(show k<j∨k=j∨j<k by omega) with g|rfl|g
   ·have:¬ ((rw_ l k).asset=a∧(rw_ l k).acct=0):=fun⟨q1,q2⟩=>by
     have:=h.lt g hj
     unfold LtR at this
     omega
    rw[if_neg this,if_neg qO,if_neg qO];rfl
   ·rw[if_neg qO,if_pos ⟨h1,h2⟩,if_pos qO];omega
   ·have:¬ ((rw_ l k).asset=a∧(rw_ l k).acct=0):=fun⟨q1,q2⟩=>by
     have:=h.lt g qO
     unfold LtR at this
     omega
    rw[if_pos g,if_neg this,if_pos qO];omega
theorem zTb {l:List Row4}(hl:zAY l=true){a:Nat}(ha:a<17){k:Nat}(hk:k≤l.length):-72057594037927936≤smR l a k∧smR l a k≤72057594037927936:=by
 obtain⟨h,h0⟩:=zBi.1 hl
 have hk2:RowsP l k:=fun j hj=>h j qO
 obtain⟨m,m1,m2,m3,m4,_⟩:=zNp (a:=a) h
 obtain⟨m',p1,p2,p3,p4,_⟩:=zNp (a:=a) hk2
 have e1:=zE9 (a:=a) h
 have e2:=zE9 (a:=a) hk2
 rw[h0 a ha] at e1
 by_cases hz:∃ j,j<l.length∧(rw_ l j).asset=a∧(rw_ l j).acct=0
 ·obtain⟨j,j1,j2,j3⟩:=hz
  have z1:=zJj h j1 j2 j3 (zzC _)
  have z2:=zJj h j1 j2 j3 hk
  rw[if_pos j1] at z1
  split at z2<;>omega
 ·have z2:zR l a k=0:=zR_no fun j hj hh=>hz ⟨j,by omega,hh.1,hh.2⟩
  omega
theorem zO5 {l:List Row4}(hl:zAY l=true){j:Nat}(hj:j<l.length)(h0:(rw_ l j).acct=0):-72057594037927936≤(rw_ l j).free∧(rw_ l j).free≤0:=by
 obtain⟨h,h1⟩:=zBi.1 hl
 have hg:=(h j hj).1.1
 have ha:(rw_ l j).asset=(((rw_ l j).asset.toNat:Nat):Int):=by omega
 obtain⟨m,m1,m2,m3,m4,_⟩:=zNp (a:=(rw_ l j).asset) h
 have e1:=zE9 (a:=(rw_ l j).asset) h
 have z1:=zJj h hj rfl h0 (zzC _)
 rw[if_pos hj] at z1
 have:=h1 (rw_ l j).asset.toNat qO
 rw[← ha] at this
 omega
def zJk (z:Int):List Value:=[.int .i64 (z / 18446744073709551616),.int .u64 (z % 18446744073709551616)]
theorem zO6 (x y:Int)(hx:0≤x)(hy:0≤y)(w:World):(callFunc 251 [Value.int .u64 x,Value.int .u64 y,Value.int .u64 0].toArray).run Tryz.prog w =
  .ok (.value (.tuple #[.int .u64 ((x+y+0) % 18446744073709551616),.int .u64 ((x+y+0) / 18446744073709551616)])) w:=by
 rw[run_callFunc_extern (e:=add64Entry) Tryz.func251 (by kernel_rfl) (by kernel_rfl) (by kernel_rfl) (by kernel_rfl)]
 rw[run_add64 x y 0 hx hy (Int.le_refl 0) qO]
 rfl
theorem u64w (n:Int):IntKind.u64.wrap n=n % 18446744073709551616:=rfl
theorem shr63 (n:Int):n.fdiv (2 ^ min 63 IntKind.i64.bits)=n / 9223372036854775808:=by
 have:((2:Int) ^ min 63 IntKind.i64.bits)=9223372036854775808:=by decide
 rw[this,Int.fdiv_eq_ediv_of_nonneg _ qO]
theorem zO7 (z n:Int)(h1:-1267650600228229401496703205376≤z)(h2:z≤1267650600228229401496703205376)(h3:-9223372036854775808≤n)(h4:n≤9223372036854775807) :
  IntKind.i64.wrap (IntKind.i64.wrap (z / 18446744073709551616+n.fdiv (2 ^ min 63 IntKind.i64.bits))+IntKind.i64.wrap ((z % 18446744073709551616+IntKind.u64.wrap n+0) / 18446744073709551616))=(z+n) / 18446744073709551616:=by
 rw[shr63,u64w,w64 (x:=z / 18446744073709551616+n / 9223372036854775808) qO qO,w64 (x:=(z % 18446744073709551616+n % 18446744073709551616+0) / 18446744073709551616) qO qO,w64 qO qO]
 omega
theorem zRB (z n:Int):(z % 18446744073709551616+IntKind.u64.wrap n+0) % 18446744073709551616=(z+n) % 18446744073709551616:=by
 rw[u64w];omega
theorem c_plus (z n:Int)(w0:World)(h1:-1267650600228229401496703205376≤z)(h2:z≤1267650600228229401496703205376)(h3:-9223372036854775808≤n)(h4:n≤9223372036854775807) :
  Calls Tryz.prog 236 [.agg (zJk z).toArray,.int .i64 n].toArray w0 (Ret (.agg (zJk (z+n)).toArray) w0):=by
 refine enter [.cell 4 294] Tryz.func236 rfl Tryz.ntmps236 rfl rfl ?_
 have H:=zA w0
 repeat' (first|refine yT ?_|refine y7 sg H ?_|(refine y9 H ?_;intro b w H)|(refine y10 sg H ?_;intro b w H)|(refine y11 sg H ?_;intro w H)|refine z13 (Yq.ext rfl rfl (zO6 (z % 18446744073709551616) (IntKind.u64.wrap n) qO (by rw[u64w];omega))) ?_|refine yU ?_|fail)
 refine zA5 (vs:=[_]) ⟨zy sg rfl H.mem (zz2 _) rfl rfl,trivial⟩ H.cl ?_
 rw[zO7 z n h1 h2 h3 h4,zRB]
 rfl
def zCr (l:List Int):Nat→Int
 | 0=>0
 | k+1=>zCr l k+l.getD k 0
def iel (l:List Int)(j:Nat):List Value:=[.int .i64 (l.getD j 0)]
def Ints (F:zC)(a:Option Addr)(cap:Nat)(l:List Int):Prop:=SlA F 1 a l.length cap (iel l)
def I64 (l:List Int):Prop:=∀ j,-9223372036854775808≤l.getD j 0∧l.getD j 0≤9223372036854775807
theorem zRC (l:List Int)(h:I64 l)(k:Nat):-9223372036854775808*k≤zCr l k∧zCr l k≤9223372036854775807*k:=by
 induction k with
 | zero=>exact⟨by simp[zCr],by simp[zCr]⟩
 | succ k ih=>have:=h k;simp only[zCr];constructor<;>omega
def zBz (z:Int):Int × Int:=if z>4611686018427387904∨z < -4611686018427387904 then(0,41) else(z,0)
theorem zO8 (z:Int)(h:¬ (-9223372036854775808≤z∧z≤9223372036854775807)):zBz z=(0,41):=by
 rw[zBz,if_pos qO]
theorem vlow (z:Int):(z / 18446744073709551616=(IntKind.i64.wrap (z % 18446744073709551616)).fdiv (2 ^ min 63 IntKind.i64.bits)↔-9223372036854775808≤z∧z≤9223372036854775807) ∧
  ((-9223372036854775808≤z∧z≤9223372036854775807)→IntKind.i64.wrap (z % 18446744073709551616)=z):=by
 rw[shr63,IntKind.wrap_i64]
 constructor
 ·constructor<;>intro h<;>omega
 ·intro h;omega
theorem c_told (z:Int)(w0:World) :
  Calls Tryz.prog 237 [.agg (zJk z).toArray].toArray w0 (Ret (.tuple #[.int .i64 (zBz z).1,.int .i64 (zBz z).2]) w0):=by
 refine enter [.tmp 2,.tmp 3] Tryz.func237 rfl Tryz.ntmps237 rfl rfl ?_
 have H:=zA w0
 repeat' (first|refine yT ?_|refine y7 sg H ?_|(refine y9 H ?_;intro b w H)|refine yU ?_|(refine y17 ?_ ?_;all_goals intro h)|(refine y23 ?_ ?_;all_goals intro h)|fail)
 ·rw[zO8 z (fun h1=>by rw[(vlow z).1.2 h1] at h;simp at h)];exact zFZ rfl rfl H.cl rfl
 all_goals
  have hz:=(vlow z).1.1 (by simpa using ‹(z / 18446744073709551616 != (IntKind.i64.wrap (z % 18446744073709551616)).fdiv (2 ^ min 63 IntKind.i64.bits))=false›)
  have hv:=(vlow z).2 hz
  simp only[hv] at *
 ·exact zFZ rfl rfl H.cl (by rw[zBz,if_pos (.inl (of_decide_eq_true h))])
 ·exact zFZ rfl rfl H.cl (by rw[zBz,if_pos (.inr (of_decide_eq_true h))])
 ·refine zFZ rfl rfl H.cl ?_
  rw[zBz,if_neg (fun hc=>hc.elim (fun h3=>absurd h3 (of_decide_eq_false ‹decide (z>4611686018427387904)=false›)) (fun h3=>absurd h3 (of_decide_eq_false ‹decide (z < -4611686018427387904)=false›)))]
theorem c_Sum {a:Option Addr}{cap:Nat}(l:List Int)(hl:I64 l)(hlen:l.length≤1048576){F:zC}(w0:World)(hF:Mem w0 F)(hs:Ints F a cap l) :
  Calls Tryz.prog 223 [.slice a l.length cap].toArray w0 (Ret (.tuple #[.int .i64 (zBz (zCr l l.length)).1,.int .i64 (zBz (zCr l l.length)).2]) w0):=by
 obtain⟨hn,hc,b0,off,cs,T,fr,hs⟩:=hs
 refine enter [.tmp 2,.tmp 3] Tryz.func223 rfl Tryz.ntmps223 rfl rfl ?_
 have H:=zA w0
 repeat' (first|refine yT ?_|(refine y10 sg H ?_;intro b w H)|refine yU ?_|with_reducible apply zB|fail)
 refine zI [(6,6),(9,16)] (fun k:Nat=>[(9,.int .i64 (k:Int))]) (fun k w=>k≤l.length∧St w0 [cb _ (zJk (zCr l k)) 294] w) (fun k=>l.length - k) 0 ⟨rfl,trivial⟩ ⟨zzD _,H⟩ ?_
 clear H
 rintro k g w ⟨hk,H⟩
 have hb:=zRC l hl k
 have hb2:=hl k
 repeat' (first|refine yT ?_|refine yU ?_|fail)
 refine zD rfl (fun h=>?_) (fun h=>?_)
 ·have hlt:k<l.length:=by simpa using h
  repeat' (first|refine yT ?_|refine y7 sg H ?_|(refine y11 sg H ?_;intro w H)|refine x40 sg hs ?_|refine z13 (Yq.loadB1 sg hs (H.memF hF) rfl rfl rfl rfl hlt rfl) ?_|(refine' y30 ent236 ?_ ?_;rotate_left;exact c_plus (zCr l k) (l.getD k 0) _ qO qO hb2.1 hb2.2;refine w2 H ?_;clear H;intro w H)|refine yU ?_|with_reducible apply zB|fail)
  refine zF (k+1) rfl ⟨zf qO,trivial⟩ ⟨hlt,H⟩ qO
 ·have hkn:k=l.length:=by simp at h;omega
  subst hkn
  repeat' (first|refine yT ?_|refine y7 sg H ?_|(refine' y30 ent237 ?_ ?_;rotate_left;exact c_told (zCr l l.length) _;refine w2 H ?_;clear H;intro w H)|refine yU ?_|fail)
  exact zFZ rfl rfl H.cl rfl
def zMU (a b:Int):Int × Int:=zBz (a+b)
theorem Ints.two {F:zC}{b:Nat}{x y:Int}{T:TypeId}{fr:Nat × Nat}(h:(b,Obj.cells [Value.int .i64 x,Value.int .i64 y].toArray T fr)∈F):Ints F (some ⟨b,0,none⟩) 2 [x,y] :=
 ⟨zzC _,(by show 2≤140737488355328;omega),b,0,_,T,fr,fun _=>⟨rfl,h,fun j hj=>by
  have:j=0∨j=1:=by simp at hj;omega
  rcases this with rfl|rfl<;>exact⟨by simp,rfl⟩⟩⟩
theorem c_Add (x y:Int)(w0:World)(h1:-9223372036854775808≤x)(h2:x≤9223372036854775807)(h3:-9223372036854775808≤y)(h4:y≤9223372036854775807) :
  Calls Tryz.prog 229 [.int .i64 x,.int .i64 y].toArray w0 (Ret (.tuple #[.int .i64 (zMU x y).1,.int .i64 (zMU x y).2]) w0):=by
 have hI:I64 [x,y]:=by
  intro j
  rcases j with _|_|j
  ·exact⟨h1,h2⟩
  ·exact⟨h3,h4⟩
  ·simp
 have e:zCr [x,y] [x,y].length=x+y:=by simp[zCr]
 refine enter [.tmp 4,.tmp 5] Tryz.func229 rfl Tryz.ntmps229 rfl rfl ?_
 have H:=zA w0
 repeat' (first|refine yT ?_|(refine z14 sg H ?_;intro b w H)|(refine' y30 zQx ?_ ?_;rotate_left;exact c_Sum [x,y] hI (by show 2≤1048576;omega) _ (H.mem) (Ints.two (zz2 _));refine w2 H ?_;clear H;intro w H)|refine yU ?_|fail)
 refine zFZ rfl rfl H.cl ?_
 rw[e];rfl
end Go.Proofs.YthbflajpdhgfiaaGreatDoor
