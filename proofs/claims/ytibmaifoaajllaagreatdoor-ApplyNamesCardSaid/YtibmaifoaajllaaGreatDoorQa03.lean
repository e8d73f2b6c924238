/- Texts of ours, joined: the steps of the proof, or the claim's theorem. -/
import Derived.KernelRfl
import Derived.Test.YtibmaifoaajllaaGreatDoorProg
import Derived.Test.YtibmaifoaajllaaGreatDoorQa02
set_option linter.unusedSimpArgs false
set_option linter.unusedVariables false
set_option maxHeartbeats 16000000
namespace Go.Proofs.YtibmaifoaajllaaGreatDoor
open Go Go.Sk Go.RowKit
set_option maxRecDepth 100000 in
def tab:Tab:=(.node (.node (.node (.node (.node (.node .nil 2 ⟨.int .i64,1,[.int .i64 (0)],8⟩
 .nil) 3 ⟨.int .i64,1,[.int .i64 (0)],8⟩
 (.node .nil 4 ⟨.bool,1,[.bool false],1⟩
 .nil)) 5 ⟨.int .u8,1,[.int .u8 (0)],1⟩
 (.node (.node .nil 9 ⟨.string,1,[.string ⟨#[]⟩],16⟩
 .nil) 21 ⟨.int .i32,1,[.int .i32 (0)],4⟩
 (.node .nil 22 ⟨.slice 74,1,[.slice none 0 0],24⟩
 .nil))) 23 ⟨.slice 76,1,[.slice none 0 0],24⟩
 (.node (.node (.node .nil 24 ⟨.slice 70,1,[.slice none 0 0],24⟩
 .nil) 25 ⟨.slice 43,1,[.slice none 0 0],24⟩
 (.node .nil 26 ⟨.slice 62,1,[.slice none 0 0],24⟩
 .nil)) 28 ⟨.struct #[⟨ "Clock",2,0,false,"","",0⟩,⟨ "Fee",2,1,false,"","",8⟩,⟨ "NextOrder",2,2,false,"","",16⟩,⟨ "NextAuction",2,3,false,"","",24⟩,⟨ "Accounts",22,4,false,"","",32⟩,⟨ "Insts",23,5,false,"","",56⟩,⟨ "Rows",24,6,false,"","",80⟩,⟨ "Orders",25,7,false,"","",104⟩,⟨ "Auctions",26,8,false,"","",128⟩],9,[.int .i64 (0),.int .i64 (0),.int .i64 (0),.int .i64 (0),.slice none 0 0,.slice none 0 0,.slice none 0 0,.slice none 0 0,.slice none 0 0],152⟩
 (.node (.node .nil 29 ⟨.slice 2,1,[.slice none 0 0],24⟩
 .nil) 30 ⟨.slice 9,1,[.slice none 0 0],24⟩
 (.node .nil 32 ⟨.struct #[⟨ "V",5,0,false,"","",0⟩,⟨ "Kind",5,1,false,"","",1⟩,⟨ "Nums",29,2,false,"","",8⟩,⟨ "Texts",30,3,false,"","",32⟩],4,[.int .u8 (0),.int .u8 (0),.slice none 0 0,.slice none 0 0],56⟩
 .nil)))) 33 ⟨.func #[28] #[4] false,1,[.nilFunc],8⟩
 (.node (.node (.node (.node .nil 35 ⟨.func #[] #[4] false,1,[.nilFunc],8⟩
 .nil) 36 ⟨.int .i64,1,[.int .i64 (0)],8⟩
 (.node .nil 43 ⟨.struct #[⟨ "ID",2,0,false,"","",0⟩,⟨ "Acct",3,1,false,"","",8⟩,⟨ "Inst",3,2,false,"","",16⟩,⟨ "Side",5,3,false,"","",24⟩,⟨ "Price",2,4,false,"","",32⟩,⟨ "Left",2,5,false,"","",40⟩],6,[.int .i64 (0),.int .i64 (0),.int .i64 (0),.int .u8 (0),.int .i64 (0),.int .i64 (0)],48⟩
 .nil)) 52 ⟨.slice 32,1,[.slice none 0 0],24⟩
 (.node (.node .nil 56 ⟨.struct #[⟨ "e",32,0,false,"","souk/souklaw19",0⟩,⟨ "f",36,4,false,"","souk/souklaw19",56⟩],5,[.int .u8 (0),.int .u8 (0),.slice none 0 0,.slice none 0 0,.int .i64 (0)],64⟩
 .nil) 57 ⟨.slice 56,1,[.slice none 0 0],24⟩
 (.node .nil 60 ⟨.slice 91,1,[.slice none 0 0],24⟩
 .nil))) 62 ⟨.struct #[⟨ "ID",2,0,false,"","",0⟩,⟨ "Seller",3,1,false,"","",8⟩,⟨ "Inst",3,2,false,"","",16⟩,⟨ "Sealed",4,3,false,"","",24⟩,⟨ "Qty",2,4,false,"","",32⟩,⟨ "Reserve",2,5,false,"","",40⟩,⟨ "Step",2,6,false,"","",48⟩,⟨ "End",2,7,false,"","",56⟩,⟨ "Bids",60,8,false,"","",64⟩],9,[.int .i64 (0),.int .i64 (0),.int .i64 (0),.bool false,.int .i64 (0),.int .i64 (0),.int .i64 (0),.int .i64 (0),.slice none 0 0],88⟩
 (.node (.node (.node .nil 63 ⟨.int .u64,1,[.int .u64 (0)],8⟩
 .nil) 70 ⟨.struct #[⟨ "Acct",3,0,false,"","",0⟩,⟨ "Asset",3,1,false,"","",8⟩,⟨ "Free",2,2,false,"","",16⟩,⟨ "Held",2,3,false,"","",24⟩],4,[.int .i64 (0),.int .i64 (0),.int .i64 (0),.int .i64 (0)],32⟩
 (.node .nil 74 ⟨.struct #[⟨ "Name",9,0,false,"","",0⟩,⟨ "Open",4,1,false,"","",16⟩],2,[.string ⟨#[]⟩,.bool false],24⟩
 .nil)) 76 ⟨.struct #[⟨ "Name",9,0,false,"","",0⟩,⟨ "Tick",2,1,false,"","",16⟩,⟨ "Halted",4,2,false,"","",24⟩],3,[.string ⟨#[]⟩,.int .i64 (0),.bool false],32⟩
 (.node (.node .nil 84 ⟨.func #[2,2] #[3] false,1,[.nilFunc],8⟩
 .nil) 85 ⟨.array 3 84,3,[.nilFunc,.nilFunc,.nilFunc],24⟩
 (.node .nil 91 ⟨.struct #[⟨ "Acct",3,0,false,"","",0⟩,⟨ "Amount",2,1,false,"","",8⟩],2,[.int .i64 (0),.int .i64 (0)],16⟩
 .nil))))) 93 ⟨.pointer 95,1,[.pointer none],8⟩
 (.node (.node (.node (.node (.node .nil 95 ⟨.struct #[⟨ "s",28,0,false,"","souk/apply",0⟩,⟨ "n",29,9,false,"","souk/apply",152⟩,⟨ "text",9,10,false,"","souk/apply",176⟩],11,[.int .i64 (0),.int .i64 (0),.int .i64 (0),.int .i64 (0),.slice none 0 0,.slice none 0 0,.slice none 0 0,.slice none 0 0,.slice none 0 0,.slice none 0 0,.string ⟨#[]⟩],192⟩
 .nil) 103 ⟨.slice 152,1,[.slice none 0 0],24⟩
 (.node .nil 115 ⟨.struct #[⟨ "acct",3,0,false,"","souk/state",0⟩,⟨ "asset",3,1,false,"","souk/state",8⟩],2,[.int .i64 (0),.int .i64 (0)],16⟩
 .nil)) 116 ⟨.func #[93] #[36] false,1,[.nilFunc],8⟩
 (.node (.node .nil 117 ⟨.array 24 116,24,[.nilFunc,.nilFunc,.nilFunc,.nilFunc,.nilFunc,.nilFunc,.nilFunc,.nilFunc,.nilFunc,.nilFunc,.nilFunc,.nilFunc,.nilFunc,.nilFunc,.nilFunc,.nilFunc,.nilFunc,.nilFunc,.nilFunc,.nilFunc,.nilFunc,.nilFunc,.nilFunc,.nilFunc],192⟩
 .nil) 128 ⟨.int .u64,1,[.int .u64 (0)],8⟩
 (.node .nil 137 ⟨.slice 140,1,[.slice none 0 0],24⟩
 .nil))) 140 ⟨.struct #[⟨ "word",9,0,false,"","souk/state",0⟩,⟨ "ok",33,1,false,"","souk/state",16⟩],2,[.string ⟨#[]⟩,.nilFunc],24⟩
 (.node (.node (.node .nil 147 ⟨.array 3 9,3,[.string ⟨#[]⟩,.string ⟨#[]⟩,.string ⟨#[]⟩],48⟩
 .nil) 149 ⟨.struct #[⟨ "name",9,0,false,"","souk/schema",0⟩,⟨ "fields",147,1,false,"","souk/schema",16⟩,⟨ "text",4,4,false,"","souk/schema",64⟩],5,[.string ⟨#[]⟩,.string ⟨#[]⟩,.string ⟨#[]⟩,.string ⟨#[]⟩,.bool false],72⟩
 (.node .nil 152 ⟨.int .u8,1,[.int .u8 (0)],1⟩
 .nil)) 154 ⟨.slice 5,1,[.slice none 0 0],24⟩
 (.node (.node .nil 156 ⟨.struct #[⟨ "high",2,0,false,"","souk/money",0⟩,⟨ "low",128,1,false,"","souk/money",8⟩],2,[.int .i64 (0),.int .u64 (0)],16⟩
 .nil) 169 ⟨.interface #[("Error",295)],1,[.nilIface],16⟩
 (.node .nil 174 ⟨.array 23 149,115,[.string ⟨#[]⟩,.string ⟨#[]⟩,.string ⟨#[]⟩,.string ⟨#[]⟩,.bool false,.string ⟨#[]⟩,.string ⟨#[]⟩,.string ⟨#[]⟩,.string ⟨#[]⟩,.bool false,.string ⟨#[]⟩,.string ⟨#[]⟩,.string ⟨#[]⟩,.string ⟨#[]⟩,.bool false,.string ⟨#[]⟩,.string ⟨#[]⟩,.string ⟨#[]⟩,.string ⟨#[]⟩,.bool false,.string ⟨#[]⟩,.string ⟨#[]⟩,.string ⟨#[]⟩,.string ⟨#[]⟩,.bool false,.string ⟨#[]⟩,.string ⟨#[]⟩,.string ⟨#[]⟩,.string ⟨#[]⟩,.bool false,.string ⟨#[]⟩,.string ⟨#[]⟩,.string ⟨#[]⟩,.string ⟨#[]⟩,.bool false,.string ⟨#[]⟩,.string ⟨#[]⟩,.string ⟨#[]⟩,.string ⟨#[]⟩,.bool false,.string ⟨#[]⟩,.string ⟨#[]⟩,.string ⟨#[]⟩,.string ⟨#[]⟩,.bool false,.string ⟨#[]⟩,.string ⟨#[]⟩,.string ⟨#[]⟩,.string ⟨#[]⟩,.bool false,.string ⟨#[]⟩,.string ⟨#[]⟩,.string ⟨#[]⟩,.string ⟨#[]⟩,.bool false,.string ⟨#[]⟩,.string ⟨#[]⟩,.string ⟨#[]⟩,.string ⟨#[]⟩,.bool false,.string ⟨#[]⟩,.string ⟨#[]⟩,.string ⟨#[]⟩,.string ⟨#[]⟩,.bool false,.string ⟨#[]⟩,.string ⟨#[]⟩,.string ⟨#[]⟩,.string ⟨#[]⟩,.bool false,.string ⟨#[]⟩,.string ⟨#[]⟩,.string ⟨#[]⟩,.string ⟨#[]⟩,.bool false,.string ⟨#[]⟩,.string ⟨#[]⟩,.string ⟨#[]⟩,.string ⟨#[]⟩,.bool false,.string ⟨#[]⟩,.string ⟨#[]⟩,.string ⟨#[]⟩,.string ⟨#[]⟩,.bool false,.string ⟨#[]⟩,.string ⟨#[]⟩,.string ⟨#[]⟩,.string ⟨#[]⟩,.bool false,.string ⟨#[]⟩,.string ⟨#[]⟩,.string ⟨#[]⟩,.string ⟨#[]⟩,.bool false,.string ⟨#[]⟩,.string ⟨#[]⟩,.string ⟨#[]⟩,.string ⟨#[]⟩,.bool false,.string ⟨#[]⟩,.string ⟨#[]⟩,.string ⟨#[]⟩,.string ⟨#[]⟩,.bool false,.string ⟨#[]⟩,.string ⟨#[]⟩,.string ⟨#[]⟩,.string ⟨#[]⟩,.bool false,.string ⟨#[]⟩,.string ⟨#[]⟩,.string ⟨#[]⟩,.string ⟨#[]⟩,.bool false],1656⟩
 .nil)))) 191 ⟨.struct #[⟨ "Acct",3,0,false,"","",0⟩,⟨ "Asset",3,1,false,"","",8⟩,⟨ "Free",2,2,false,"","",16⟩,⟨ "Held",2,3,false,"","",24⟩],4,[.int .i64 (0),.int .i64 (0),.int .i64 (0),.int .i64 (0)],32⟩
 (.node (.node (.node (.node .nil 198 ⟨.pointer 76,1,[.pointer none],8⟩
 .nil) 201 ⟨.int .i64,1,[.int .i64 (0)],8⟩
 (.node .nil 208 ⟨.int .u32,1,[.int .u32 (0)],4⟩
 .nil)) 209 ⟨.slice 3,1,[.slice none 0 0],24⟩
 (.node (.node .nil 221 ⟨.map 115 2,1,[.map none],8⟩
 .nil) 223 ⟨.struct #[],0,[],0⟩
 (.node .nil 224 ⟨.struct #[],0,[],0⟩
 .nil))) 231 ⟨.slice 191,1,[.slice none 0 0],24⟩
 (.node (.node (.node .nil 241 ⟨.int .u64,1,[.int .u64 (0)],8⟩
 .nil) 251 ⟨.struct #[⟨ "acct",3,0,false,"","souk/ledger",0⟩,⟨ "asset",3,1,false,"","souk/ledger",8⟩],2,[.int .i64 (0),.int .i64 (0)],16⟩
 (.node .nil 252 ⟨.array 17 2,17,[.int .i64 (0),.int .i64 (0),.int .i64 (0),.int .i64 (0),.int .i64 (0),.int .i64 (0),.int .i64 (0),.int .i64 (0),.int .i64 (0),.int .i64 (0),.int .i64 (0),.int .i64 (0),.int .i64 (0),.int .i64 (0),.int .i64 (0),.int .i64 (0),.int .i64 (0)],136⟩
 .nil)) 254 ⟨.struct #[⟨ "place",251,0,true,"","souk/ledger",0⟩,⟨ "free",2,2,false,"","souk/ledger",16⟩,⟨ "held",2,3,false,"","souk/ledger",24⟩],4,[.int .i64 (0),.int .i64 (0),.int .i64 (0),.int .i64 (0)],32⟩
 (.node (.node .nil 258 ⟨.map 251 254,1,[.map none],8⟩
 .nil) 259 ⟨.slice 254,1,[.slice none 0 0],24⟩
 (.node .nil 272 ⟨.map 3 2,1,[.map none],8⟩
 .nil))))))
set_option maxRecDepth 100000 in
theorem tab_ok:tab.All fun p=>Tryz.prog.underlying p.1=some p.2.d∧(Tryz.prog.info? p.1).map (fun i=>(i.size,i.zero.map Value.cells,i.bytes))=some (p.2.size,some p.2.zero.toArray,p.2.bytes) :=
 by repeat' (first|exact trivial|apply And.intro|kernel_rfl)
def sg:Sig Tryz.prog:=⟨tab,tab_ok⟩
theorem em {f:FuncId}{fn:Func}(hf:Tryz.prog.funcs[f]?=some fn)(h1:(fn.name=="runtime.NumGoroutine")=false:=by kernel_rfl)(h2:fn.body.isNone=false:=by kernel_rfl):Ent Tryz.prog f:=Ent.mk hf h1 h2
theorem zAa:Ent Tryz.prog 10:=em Tryz.func10
theorem zAr:Ent Tryz.prog 11:=em Tryz.func11
theorem zAb:Ent Tryz.prog 12:=em Tryz.func12
theorem zBr:Ent Tryz.prog 13:=em Tryz.func13
theorem zHA:Ent Tryz.prog 15:=em Tryz.func15
theorem zFV:Ent Tryz.prog 16:=em Tryz.func16
theorem zQI:Ent Tryz.prog 17:=em Tryz.func17
theorem zQJ:Ent Tryz.prog 18:=em Tryz.func18
theorem zIu:Ent Tryz.prog 19:=em Tryz.func19
theorem zNW:Ent Tryz.prog 21:=em Tryz.func21
theorem ent23:Ent Tryz.prog 23:=em Tryz.func23
theorem ent24:Ent Tryz.prog 24:=em Tryz.func24
theorem zBJ:Ent Tryz.prog 25:=em Tryz.func25
theorem zCR:Ent Tryz.prog 26:=em Tryz.func26
theorem zKl:Ent Tryz.prog 28:=em Tryz.func28
theorem zNX:Ent Tryz.prog 30:=em Tryz.func30
theorem zDs:Ent Tryz.prog 32:=em Tryz.func32
theorem ent34:Ent Tryz.prog 34:=em Tryz.func34
theorem ent35:Ent Tryz.prog 35:=em Tryz.func35
theorem ent36:Ent Tryz.prog 36:=em Tryz.func36
theorem zCx:Ent Tryz.prog 37:=em Tryz.func37
theorem zHB:Ent Tryz.prog 38:=em Tryz.func38
theorem ent39:Ent Tryz.prog 39:=em Tryz.func39
theorem zEa:Ent Tryz.prog 40:=em Tryz.func40
theorem zKm:Ent Tryz.prog 41:=em Tryz.func41
theorem ent42:Ent Tryz.prog 42:=em Tryz.func42
theorem ent43:Ent Tryz.prog 43:=em Tryz.func43
theorem zQK:Ent Tryz.prog 45:=em Tryz.func45
theorem ent46:Ent Tryz.prog 46:=em Tryz.func46
theorem ent47:Ent Tryz.prog 47:=em Tryz.func47
theorem ent48:Ent Tryz.prog 48:=em Tryz.func48
theorem ent49:Ent Tryz.prog 49:=em Tryz.func49
theorem ent50:Ent Tryz.prog 50:=em Tryz.func50
theorem ent51:Ent Tryz.prog 51:=em Tryz.func51
theorem ent52:Ent Tryz.prog 52:=em Tryz.func52
theorem ent53:Ent Tryz.prog 53:=em Tryz.func53
theorem ent54:Ent Tryz.prog 54:=em Tryz.func54
theorem zQL:Ent Tryz.prog 55:=em Tryz.func55
theorem zNY:Ent Tryz.prog 56:=em Tryz.func56
theorem ent57:Ent Tryz.prog 57:=em Tryz.func57
theorem ent58:Ent Tryz.prog 58:=em Tryz.func58
theorem ent59:Ent Tryz.prog 59:=em Tryz.func59
theorem zNZ:Ent Tryz.prog 60:=em Tryz.func60
theorem ent61:Ent Tryz.prog 61:=em Tryz.func61
theorem zQM:Ent Tryz.prog 62:=em Tryz.func62
theorem ent63:Ent Tryz.prog 63:=em Tryz.func63
theorem ent64:Ent Tryz.prog 64:=em Tryz.func64
theorem zKn:Ent Tryz.prog 65:=em Tryz.func65
theorem ent66:Ent Tryz.prog 66:=em Tryz.func66
theorem zQN:Ent Tryz.prog 67:=em Tryz.func67
theorem ent68:Ent Tryz.prog 68:=em Tryz.func68
theorem zQO:Ent Tryz.prog 69:=em Tryz.func69
theorem ent71:Ent Tryz.prog 71:=em Tryz.func71
theorem ent72:Ent Tryz.prog 72:=em Tryz.func72
theorem ent73:Ent Tryz.prog 73:=em Tryz.func73
theorem ent74:Ent Tryz.prog 74:=em Tryz.func74
theorem ent75:Ent Tryz.prog 75:=em Tryz.func75
theorem ent76:Ent Tryz.prog 76:=em Tryz.func76
theorem ent77:Ent Tryz.prog 77:=em Tryz.func77
theorem zQP:Ent Tryz.prog 78:=em Tryz.func78
theorem zQQ:Ent Tryz.prog 79:=em Tryz.func79
theorem ent80:Ent Tryz.prog 80:=em Tryz.func80
theorem zKo:Ent Tryz.prog 81:=em Tryz.func81
theorem zNa:Ent Tryz.prog 84:=em Tryz.func84
theorem ent85:Ent Tryz.prog 85:=em Tryz.func85
theorem ent86:Ent Tryz.prog 86:=em Tryz.func86
theorem ent87:Ent Tryz.prog 87:=em Tryz.func87
theorem ent88:Ent Tryz.prog 88:=em Tryz.func88
theorem ent89:Ent Tryz.prog 89:=em Tryz.func89
theorem ent90:Ent Tryz.prog 90:=em Tryz.func90
theorem ent91:Ent Tryz.prog 91:=em Tryz.func91
theorem zQR:Ent Tryz.prog 92:=em Tryz.func92
theorem zHo:Ent Tryz.prog 93:=em Tryz.func93
theorem ent94:Ent Tryz.prog 94:=em Tryz.func94
theorem ent95:Ent Tryz.prog 95:=em Tryz.func95
theorem ent96:Ent Tryz.prog 96:=em Tryz.func96
theorem ent97:Ent Tryz.prog 97:=em Tryz.func97
theorem ent98:Ent Tryz.prog 98:=em Tryz.func98
theorem ent99:Ent Tryz.prog 99:=em Tryz.func99
theorem ent100:Ent Tryz.prog 100:=em Tryz.func100
theorem ent101:Ent Tryz.prog 101:=em Tryz.func101
theorem ent102:Ent Tryz.prog 102:=em Tryz.func102
theorem ent103:Ent Tryz.prog 103:=em Tryz.func103
theorem ent104:Ent Tryz.prog 104:=em Tryz.func104
theorem ent105:Ent Tryz.prog 105:=em Tryz.func105
theorem ent106:Ent Tryz.prog 106:=em Tryz.func106
theorem ent107:Ent Tryz.prog 107:=em Tryz.func107
theorem ent108:Ent Tryz.prog 108:=em Tryz.func108
theorem ent109:Ent Tryz.prog 109:=em Tryz.func109
theorem ent110:Ent Tryz.prog 110:=em Tryz.func110
theorem ent111:Ent Tryz.prog 111:=em Tryz.func111
theorem ent112:Ent Tryz.prog 112:=em Tryz.func112
theorem ent113:Ent Tryz.prog 113:=em Tryz.func113
theorem ent114:Ent Tryz.prog 114:=em Tryz.func114
theorem ent115:Ent Tryz.prog 115:=em Tryz.func115
theorem ent116:Ent Tryz.prog 116:=em Tryz.func116
theorem zL5:Ent Tryz.prog 117:=em Tryz.func117
theorem ent118:Ent Tryz.prog 118:=em Tryz.func118
theorem zL6:Ent Tryz.prog 121:=em Tryz.func121
theorem ent123:Ent Tryz.prog 123:=em Tryz.func123
theorem ent124:Ent Tryz.prog 124:=em Tryz.func124
theorem ent125:Ent Tryz.prog 125:=em Tryz.func125
theorem ent126:Ent Tryz.prog 126:=em Tryz.func126
theorem ent127:Ent Tryz.prog 127:=em Tryz.func127
theorem ent128:Ent Tryz.prog 128:=em Tryz.func128
theorem ent129:Ent Tryz.prog 129:=em Tryz.func129
theorem zGf:Ent Tryz.prog 130:=em Tryz.func130
theorem ent131:Ent Tryz.prog 131:=em Tryz.func131
theorem zGg:Ent Tryz.prog 133:=em Tryz.func133
theorem zHp:Ent Tryz.prog 134:=em Tryz.func134
theorem zQS:Ent Tryz.prog 135:=em Tryz.func135
theorem zAy:Ent Tryz.prog 136:=em Tryz.func136
theorem zJa:Ent Tryz.prog 137:=em Tryz.func137
theorem zAz:Ent Tryz.prog 138:=em Tryz.func138
theorem zQT:Ent Tryz.prog 139:=em Tryz.func139
theorem ent140:Ent Tryz.prog 140:=em Tryz.func140
theorem zQU:Ent Tryz.prog 141:=em Tryz.func141
theorem zQV:Ent Tryz.prog 142:=em Tryz.func142
theorem zHq:Ent Tryz.prog 143:=em Tryz.func143
theorem zJb:Ent Tryz.prog 144:=em Tryz.func144
theorem zJc:Ent Tryz.prog 145:=em Tryz.func145
theorem zL7:Ent Tryz.prog 146:=em Tryz.func146
theorem ent147:Ent Tryz.prog 147:=em Tryz.func147
theorem ent148:Ent Tryz.prog 148:=em Tryz.func148
theorem zQW:Ent Tryz.prog 149:=em Tryz.func149
theorem zFh:Ent Tryz.prog 150:=em Tryz.func150
theorem zJd:Ent Tryz.prog 151:=em Tryz.func151
theorem zQX:Ent Tryz.prog 152:=em Tryz.func152
theorem zQY:Ent Tryz.prog 153:=em Tryz.func153
theorem zEB:Ent Tryz.prog 154:=em Tryz.func154
theorem zGh:Ent Tryz.prog 155:=em Tryz.func155
theorem zQZ:Ent Tryz.prog 156:=em Tryz.func156
theorem zQa:Ent Tryz.prog 157:=em Tryz.func157
theorem zC8:Ent Tryz.prog 158:=em Tryz.func158
theorem ent159:Ent Tryz.prog 159:=em Tryz.func159
theorem ent170:Ent Tryz.prog 170:=em Tryz.func170
theorem zJe:Ent Tryz.prog 171:=em Tryz.func171
theorem zQb:Ent Tryz.prog 172:=em Tryz.func172
theorem ent173:Ent Tryz.prog 173:=em Tryz.func173
theorem zJf:Ent Tryz.prog 174:=em Tryz.func174
theorem zJg:Ent Tryz.prog 175:=em Tryz.func175
theorem ent176:Ent Tryz.prog 176:=em Tryz.func176
theorem ent177:Ent Tryz.prog 177:=em Tryz.func177
theorem zQc:Ent Tryz.prog 178:=em Tryz.func178
theorem ent179:Ent Tryz.prog 179:=em Tryz.func179
theorem ent180:Ent Tryz.prog 180:=em Tryz.func180
theorem ent181:Ent Tryz.prog 181:=em Tryz.func181
theorem zL8:Ent Tryz.prog 182:=em Tryz.func182
theorem zJh:Ent Tryz.prog 183:=em Tryz.func183
theorem ent184:Ent Tryz.prog 184:=em Tryz.func184
theorem ent185:Ent Tryz.prog 185:=em Tryz.func185
theorem ent186:Ent Tryz.prog 186:=em Tryz.func186
theorem ent187:Ent Tryz.prog 187:=em Tryz.func187
theorem zL9:Ent Tryz.prog 188:=em Tryz.func188
theorem zQd:Ent Tryz.prog 189:=em Tryz.func189
theorem zQe:Ent Tryz.prog 190:=em Tryz.func190
theorem ent191:Ent Tryz.prog 191:=em Tryz.func191
theorem ent192:Ent Tryz.prog 192:=em Tryz.func192
theorem zQf:Ent Tryz.prog 193:=em Tryz.func193
theorem ent194:Ent Tryz.prog 194:=em Tryz.func194
theorem zQg:Ent Tryz.prog 195:=em Tryz.func195
theorem zMA:Ent Tryz.prog 196:=em Tryz.func196
theorem ent197:Ent Tryz.prog 197:=em Tryz.func197
theorem ent198:Ent Tryz.prog 198:=em Tryz.func198
theorem zQh:Ent Tryz.prog 199:=em Tryz.func199
theorem ent200:Ent Tryz.prog 200:=em Tryz.func200
theorem zQi:Ent Tryz.prog 201:=em Tryz.func201
theorem zJi:Ent Tryz.prog 202:=em Tryz.func202
theorem ent208:Ent Tryz.prog 208:=em Tryz.func208
theorem ent209:Ent Tryz.prog 209:=em Tryz.func209
theorem ent210:Ent Tryz.prog 210:=em Tryz.func210
theorem ent211:Ent Tryz.prog 211:=em Tryz.func211
theorem ent212:Ent Tryz.prog 212:=em Tryz.func212
theorem zJj:Ent Tryz.prog 213:=em Tryz.func213
theorem zQj:Ent Tryz.prog 214:=em Tryz.func214
theorem zQk:Ent Tryz.prog 215:=em Tryz.func215
theorem ent216:Ent Tryz.prog 216:=em Tryz.func216
theorem zQl:Ent Tryz.prog 217:=em Tryz.func217
theorem zQm:Ent Tryz.prog 218:=em Tryz.func218
theorem zQn:Ent Tryz.prog 220:=em Tryz.func220
theorem zQo:Ent Tryz.prog 221:=em Tryz.func221
theorem ent223:Ent Tryz.prog 223:=em Tryz.func223
theorem ent225:Ent Tryz.prog 225:=em Tryz.func225
theorem zMB:Ent Tryz.prog 226:=em Tryz.func226
theorem zJk:Ent Tryz.prog 228:=em Tryz.func228
theorem zJl:Ent Tryz.prog 229:=em Tryz.func229
theorem ent239:Ent Tryz.prog 239:=em Tryz.func239
theorem ent248:Ent Tryz.prog 248:=em Tryz.func248
theorem zMC:Ent Tryz.prog 256:=em Tryz.func256
theorem ent277:Ent Tryz.prog 277:=em Tryz.func277
theorem ent278:Ent Tryz.prog 278:=em Tryz.func278
theorem ent279:Ent Tryz.prog 279:=em Tryz.func279
theorem ent280:Ent Tryz.prog 280:=em Tryz.func280
theorem ent281:Ent Tryz.prog 281:=em Tryz.func281
theorem ent282:Ent Tryz.prog 282:=em Tryz.func282
theorem ent283:Ent Tryz.prog 283:=em Tryz.func283
theorem ent284:Ent Tryz.prog 284:=em Tryz.func284
theorem zQp:Ent Tryz.prog 287:=em Tryz.func287
theorem zQq:Ent Tryz.prog 288:=em Tryz.func288
theorem mixed:Tryz.prog.follows .mixedOrders=true:=by kernel_rfl
end Go.Proofs.YtibmaifoaajllaaGreatDoor
