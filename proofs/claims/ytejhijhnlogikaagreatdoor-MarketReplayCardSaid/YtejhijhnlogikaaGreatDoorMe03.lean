/- Steps of the proof. -/
import Derived.KernelRfl
import Derived.Test.YtejhijhnlogikaaGreatDoorProg
import Derived.Test.YtejhijhnlogikaaGreatDoorMe02
set_option linter.all false
set_option maxHeartbeats 16000000
namespace Go.Proofs.YtejhijhnlogikaaGreatDoor
open Go Go.Sk Go.RowKit Tryz
set_option maxRecDepth 100000 in
abbrev zs0:Value:=.string ⟨#[]⟩
abbrev zs1:List Value:=[zs0,zs0,zs0,zs0,.bool false]
def tab:Tab:=(.node (.node (.node (.node (.node (.node (.node .nil 2 ⟨.int .i64,1,[.int .i64 (0)],8⟩
 .nil) 3 ⟨.int .i64,1,[.int .i64 (0)],8⟩
 .nil) 4 ⟨.bool,1,[.bool false],1⟩
 (.node .nil 5 ⟨.int .u8,1,[.int .u8 (0)],1⟩
 .nil)) 9 ⟨.string,1,[.string ⟨#[]⟩],16⟩
 (.node (.node .nil 21 ⟨.int .i32,1,[.int .i32 (0)],4⟩
 .nil) 22 ⟨.slice 29,1,[.slice none 0 0],24⟩
 (.node .nil 24 ⟨.pointer 74,1,[.pointer none],8⟩
 .nil))) 27 ⟨.slice 2,1,[.slice none 0 0],24⟩
 (.node (.node (.node (.node .nil 29 ⟨.struct #[⟨ "Kind",5,0,false,"","",0⟩,⟨ "Nums",27,1,false,"","",8⟩,⟨ "Text",9,2,false,"","",32⟩],3,[.int .u8 (0),.slice none 0 0,.string ⟨#[]⟩],48⟩
 .nil) 30 ⟨.slice 61,1,[.slice none 0 0],24⟩
 .nil) 31 ⟨.int .i64,1,[.int .i64 (0)],8⟩
 (.node .nil 34 ⟨.slice 97,1,[.slice none 0 0],24⟩
 .nil)) 35 ⟨.slice 99,1,[.slice none 0 0],24⟩
 (.node (.node .nil 36 ⟨.slice 104,1,[.slice none 0 0],24⟩
 .nil) 37 ⟨.slice 45,1,[.slice none 0 0],24⟩
 (.node .nil 38 ⟨.slice 86,1,[.slice none 0 0],24⟩
 .nil)))) 40 ⟨.struct #[⟨ "Clock",2,0,false,"","",0⟩,⟨ "Fee",2,1,false,"","",8⟩,⟨ "NextOrder",2,2,false,"","",16⟩,⟨ "NextAuction",2,3,false,"","",24⟩,⟨ "Accounts",34,4,false,"","",32⟩,⟨ "Insts",35,5,false,"","",56⟩,⟨ "Rows",36,6,false,"","",80⟩,⟨ "Orders",37,7,false,"","",104⟩,⟨ "Auctions",38,8,false,"","",128⟩],9,[.int .i64 (0),.int .i64 (0),.int .i64 (0),.int .i64 (0),.slice none 0 0,.slice none 0 0,.slice none 0 0,.slice none 0 0,.slice none 0 0],152⟩
 (.node (.node (.node (.node (.node .nil 42 ⟨.func #[40] #[4] false,1,[.nilFunc],8⟩
 .nil) 45 ⟨.struct #[⟨ "ID",2,0,false,"","",0⟩,⟨ "Acct",3,1,false,"","",8⟩,⟨ "Inst",3,2,false,"","",16⟩,⟨ "Side",5,3,false,"","",24⟩,⟨ "Price",2,4,false,"","",32⟩,⟨ "Left",2,5,false,"","",40⟩],6,[.int .i64 (0),.int .i64 (0),.int .i64 (0),.int .u8 (0),.int .i64 (0),.int .i64 (0)],48⟩
 .nil) 59 ⟨.slice 9,1,[.slice none 0 0],24⟩
 (.node .nil 61 ⟨.struct #[⟨ "V",5,0,false,"","",0⟩,⟨ "Kind",5,1,false,"","",1⟩,⟨ "Nums",27,2,false,"","",8⟩,⟨ "Texts",59,3,false,"","",32⟩],4,[.int .u8 (0),.int .u8 (0),.slice none 0 0,.slice none 0 0],56⟩
 .nil)) 67 ⟨.slice 5,1,[.slice none 0 0],24⟩
 (.node (.node .nil 74 ⟨.struct #[⟨ "s",40,0,false,"","souk/market",0⟩,⟨ "seq",2,9,false,"","souk/market",152⟩],10,[.int .i64 (0),.int .i64 (0),.int .i64 (0),.int .i64 (0),.slice none 0 0,.slice none 0 0,.slice none 0 0,.slice none 0 0,.slice none 0 0,.int .i64 (0)],160⟩
 .nil) 84 ⟨.slice 136,1,[.slice none 0 0],24⟩
 (.node .nil 86 ⟨.struct #[⟨ "ID",2,0,false,"","",0⟩,⟨ "Seller",3,1,false,"","",8⟩,⟨ "Inst",3,2,false,"","",16⟩,⟨ "Sealed",4,3,false,"","",24⟩,⟨ "Qty",2,4,false,"","",32⟩,⟨ "Reserve",2,5,false,"","",40⟩,⟨ "Step",2,6,false,"","",48⟩,⟨ "End",2,7,false,"","",56⟩,⟨ "Bids",84,8,false,"","",64⟩],9,[.int .i64 (0),.int .i64 (0),.int .i64 (0),.bool false,.int .i64 (0),.int .i64 (0),.int .i64 (0),.int .i64 (0),.slice none 0 0],88⟩
 .nil))) 91 ⟨.func #[2,2] #[3] false,1,[.nilFunc],8⟩
 (.node (.node (.node (.node .nil 95 ⟨.array 3 91,3,[.nilFunc,.nilFunc,.nilFunc],24⟩
 .nil) 97 ⟨.struct #[⟨ "Name",9,0,false,"","",0⟩,⟨ "Open",4,1,false,"","",16⟩],2,[.string ⟨#[]⟩,.bool false],24⟩
 .nil) 99 ⟨.struct #[⟨ "Name",9,0,false,"","",0⟩,⟨ "Tick",2,1,false,"","",16⟩,⟨ "Halted",4,2,false,"","",24⟩],3,[.string ⟨#[]⟩,.int .i64 (0),.bool false],32⟩
 (.node .nil 104 ⟨.struct #[⟨ "Acct",3,0,false,"","",0⟩,⟨ "Asset",3,1,false,"","",8⟩,⟨ "Free",2,2,false,"","",16⟩,⟨ "Held",2,3,false,"","",24⟩],4,[.int .i64 (0),.int .i64 (0),.int .i64 (0),.int .i64 (0)],32⟩
 .nil)) 111 ⟨.slice 156,1,[.slice none 0 0],24⟩
 (.node (.node .nil 123 ⟨.pointer 125,1,[.pointer none],8⟩
 .nil) 125 ⟨.struct #[⟨ "s",40,0,false,"","souk/decide",0⟩,⟨ "l",30,9,false,"","souk/decide",152⟩,⟨ "e",31,10,false,"","souk/decide",176⟩],11,[.int .i64 (0),.int .i64 (0),.int .i64 (0),.int .i64 (0),.slice none 0 0,.slice none 0 0,.slice none 0 0,.slice none 0 0,.slice none 0 0,.slice none 0 0,.int .i64 (0)],184⟩
 (.node .nil 136 ⟨.struct #[⟨ "Acct",3,0,false,"","",0⟩,⟨ "Amount",2,1,false,"","",8⟩],2,[.int .i64 (0),.int .i64 (0)],16⟩
 .nil))))) 137 ⟨.slice 140,1,[.slice none 0 0],24⟩
 (.node (.node (.node (.node (.node (.node .nil 140 ⟨.struct #[⟨ "word",9,0,false,"","souk/state",0⟩,⟨ "ok",42,1,false,"","souk/state",16⟩],2,[.string ⟨#[]⟩,.nilFunc],24⟩
 .nil) 151 ⟨.array 3 9,3,[.string ⟨#[]⟩,.string ⟨#[]⟩,.string ⟨#[]⟩],48⟩
 .nil) 153 ⟨.struct #[⟨ "name",9,0,false,"","souk/schema",0⟩,⟨ "fields",151,1,false,"","souk/schema",16⟩,⟨ "text",4,4,false,"","souk/schema",64⟩],5,[.string ⟨#[]⟩,.string ⟨#[]⟩,.string ⟨#[]⟩,.string ⟨#[]⟩,.bool false],72⟩
 (.node .nil 156 ⟨.int .u8,1,[.int .u8 (0)],1⟩
 .nil)) 160 ⟨.slice 164,1,[.slice none 0 0],24⟩
 (.node (.node .nil 164 ⟨.struct #[⟨ "From",3,0,false,"","",0⟩,⟨ "Times",2,1,false,"","",8⟩,⟨ "Plus",2,2,false,"","",16⟩],3,[.int .i64 (0),.int .i64 (0),.int .i64 (0)],24⟩
 .nil) 170 ⟨.slice 3,1,[.slice none 0 0],24⟩
 (.node .nil 172 ⟨.struct #[⟨ "kind",5,0,false,"","souk/decide",0⟩,⟨ "from",170,1,false,"","souk/decide",8⟩],2,[.int .u8 (0),.slice none 0 0],32⟩
 .nil))) 173 ⟨.map 5 172,1,[.map none],8⟩
 (.node (.node (.node (.node .nil 180 ⟨.pointer 182,1,[.pointer none],8⟩
 .nil) 182 ⟨.struct #[⟨ "s",40,0,false,"","souk/apply",0⟩,⟨ "n",27,9,false,"","souk/apply",152⟩,⟨ "text",9,10,false,"","souk/apply",176⟩],11,[.int .i64 (0),.int .i64 (0),.int .i64 (0),.int .i64 (0),.slice none 0 0,.slice none 0 0,.slice none 0 0,.slice none 0 0,.slice none 0 0,.slice none 0 0,.string ⟨#[]⟩],192⟩
 .nil) 183 ⟨.func #[180] #[31] false,1,[.nilFunc],8⟩
 (.node .nil 184 ⟨.array 24 183,24,[.nilFunc,.nilFunc,.nilFunc,.nilFunc,.nilFunc,.nilFunc,.nilFunc,.nilFunc,.nilFunc,.nilFunc,.nilFunc,.nilFunc,.nilFunc,.nilFunc,.nilFunc,.nilFunc,.nilFunc,.nilFunc,.nilFunc,.nilFunc,.nilFunc,.nilFunc,.nilFunc,.nilFunc],192⟩
 .nil)) 195 ⟨.int .u64,1,[.int .u64 (0)],8⟩
 (.node (.node .nil 197 ⟨.array 23 153,115,(List.replicate 23 zs1).flatten,1656⟩
 .nil) 202 ⟨.int .u64,1,[.int .u64 (0)],8⟩
 (.node .nil 204 ⟨.struct #[⟨ "high",2,0,false,"","souk/money",0⟩,⟨ "low",202,1,false,"","souk/money",8⟩],2,[.int .i64 (0),.int .u64 (0)],16⟩
 .nil)))) 223 ⟨.map 228 2,1,[.map none],8⟩
 (.node (.node (.node (.node (.node .nil 228 ⟨.struct #[⟨ "acct",3,0,false,"","souk/state",0⟩,⟨ "asset",3,1,false,"","souk/state",8⟩],2,[.int .i64 (0),.int .i64 (0)],16⟩
 .nil) 230 ⟨.struct #[],0,[],0⟩
 .nil) 231 ⟨.struct #[],0,[],0⟩
 (.node .nil 233 ⟨.int .i64,1,[.int .i64 (0)],8⟩
 .nil)) 240 ⟨.int .u32,1,[.int .u32 (0)],4⟩
 (.node (.node .nil 266 ⟨.struct #[⟨ "Acct",3,0,false,"","",0⟩,⟨ "Asset",3,1,false,"","",8⟩,⟨ "Free",2,2,false,"","",16⟩,⟨ "Held",2,3,false,"","",24⟩],4,[.int .i64 (0),.int .i64 (0),.int .i64 (0),.int .i64 (0)],32⟩
 .nil) 271 ⟨.pointer 99,1,[.pointer none],8⟩
 (.node .nil 278 ⟨.struct #[⟨ "acct",3,0,false,"","souk/ledger",0⟩,⟨ "asset",3,1,false,"","souk/ledger",8⟩],2,[.int .i64 (0),.int .i64 (0)],16⟩
 .nil))) 279 ⟨.array 17 2,17,[.int .i64 (0),.int .i64 (0),.int .i64 (0),.int .i64 (0),.int .i64 (0),.int .i64 (0),.int .i64 (0),.int .i64 (0),.int .i64 (0),.int .i64 (0),.int .i64 (0),.int .i64 (0),.int .i64 (0),.int .i64 (0),.int .i64 (0),.int .i64 (0),.int .i64 (0)],136⟩
 (.node (.node (.node (.node .nil 281 ⟨.struct #[⟨ "place",278,0,true,"","souk/ledger",0⟩,⟨ "free",2,2,false,"","souk/ledger",16⟩,⟨ "held",2,3,false,"","souk/ledger",24⟩],4,[.int .i64 (0),.int .i64 (0),.int .i64 (0),.int .i64 (0)],32⟩
 .nil) 285 ⟨.int .u64,1,[.int .u64 (0)],8⟩
 .nil) 291 ⟨.array 20 153,100,(List.replicate 20 zs1).flatten,1440⟩
 (.node .nil 300 ⟨.slice 266,1,[.slice none 0 0],24⟩
 .nil)) 314 ⟨.interface #[("Error",344)],1,[.nilIface],16⟩
 (.node (.node .nil 316 ⟨.map 278 281,1,[.map none],8⟩
 .nil) 317 ⟨.slice 281,1,[.slice none 0 0],24⟩
 (.node .nil 330 ⟨.map 3 2,1,[.map none],8⟩
 .nil))))))
set_option maxRecDepth 100000 in
theorem tab_ok:tab.All fun p=>prog.underlying p.1=some p.2.d/\(prog.info? p.1).map (fun i=>(i.size,i.zero.map Value.cells,i.bytes))=some (p.2.size,some p.2.zero.toArray,p.2.bytes) :=
 by repeat' (first|exact trivial|apply And.intro|kernel_rfl)
def sg:Sig prog:=⟨tab,tab_ok⟩
abbrev Cr (f:FuncId)(l:List Value)(v:Value)(w:World):Prop:=Calls prog f l.toArray w (Ret v w)
abbrev Cf (f:FuncId)(l:List Value)(R:zA->Value->Prop)(w:World):Prop:=Calls prog f l.toArray w (zZ R w)
theorem em {f:FuncId}{fn:Func}(hf:prog.funcs[f]?=some fn)(h1:(fn.name=="runtime.NumGoroutine")=false:=by kernel_rfl)(h2:fn.body.isNone=false:=by kernel_rfl):Ent prog f:=Ent.mk hf h1 h2
theorem zEU:Ent prog 9:=em func9
theorem ent10:Ent prog 10:=em func10
theorem zE8:Ent prog 11:=em func11
theorem zDj:Ent prog 12:=em func12
theorem zMb:Ent prog 13:=em func13
theorem zCz:Ent prog 14:=em func14
theorem zS1:Ent prog 15:=em func15
theorem ent16:Ent prog 16:=em func16
theorem zS2:Ent prog 17:=em func17
theorem zCc:Ent prog 18:=em func18
theorem zDk:Ent prog 19:=em func19
theorem zH9:Ent prog 20:=em func20
theorem zDE:Ent prog 21:=em func21
theorem zD6:Ent prog 22:=em func22
theorem ent23:Ent prog 23:=em func23
theorem zS3:Ent prog 24:=em func24
theorem zE9:Ent prog 25:=em func25
theorem zKN:Ent prog 28:=em func28
theorem zPs:Ent prog 29:=em func29
theorem zD7:Ent prog 30:=em func30
theorem zPt:Ent prog 31:=em func31
theorem ent33:Ent prog 33:=em func33
theorem zPu:Ent prog 34:=em func34
theorem ent35:Ent prog 35:=em func35
theorem zIA:Ent prog 36:=em func36
theorem ent37:Ent prog 37:=em func37
theorem ent38:Ent prog 38:=em func38
theorem ent39:Ent prog 39:=em func39
theorem zMc:Ent prog 40:=em func40
theorem ent41:Ent prog 41:=em func41
theorem zPv:Ent prog 42:=em func42
theorem ent43:Ent prog 43:=em func43
theorem zS4:Ent prog 44:=em func44
theorem ent45:Ent prog 45:=em func45
theorem zKO:Ent prog 46:=em func46
theorem ent47:Ent prog 47:=em func47
theorem zPw:Ent prog 48:=em func48
theorem zMd:Ent prog 49:=em func49
theorem ent50:Ent prog 50:=em func50
theorem zFA:Ent prog 51:=em func51
theorem ent52:Ent prog 52:=em func52
theorem ent53:Ent prog 53:=em func53
theorem ent54:Ent prog 54:=em func54
theorem ent55:Ent prog 55:=em func55
theorem ent56:Ent prog 56:=em func56
theorem ent57:Ent prog 57:=em func57
theorem ent58:Ent prog 58:=em func58
theorem ent59:Ent prog 59:=em func59
theorem ent60:Ent prog 60:=em func60
theorem ent64:Ent prog 64:=em func64
theorem ent65:Ent prog 65:=em func65
theorem zMe:Ent prog 66:=em func66
theorem ent67:Ent prog 67:=em func67
theorem zS5:Ent prog 68:=em func68
theorem zMf:Ent prog 69:=em func69
theorem zKP:Ent prog 70:=em func70
theorem ent71:Ent prog 71:=em func71
theorem ent75:Ent prog 75:=em func75
theorem ent76:Ent prog 76:=em func76
theorem ent77:Ent prog 77:=em func77
theorem zPx:Ent prog 78:=em func78
theorem ent79:Ent prog 79:=em func79
theorem ent80:Ent prog 80:=em func80
theorem ent81:Ent prog 81:=em func81
theorem ent82:Ent prog 82:=em func82
theorem ent83:Ent prog 83:=em func83
theorem zS6:Ent prog 84:=em func84
theorem zS7:Ent prog 85:=em func85
theorem ent86:Ent prog 86:=em func86
theorem zIx:Ent prog 87:=em func87
theorem zMg:Ent prog 88:=em func88
theorem ent89:Ent prog 89:=em func89
theorem ent90:Ent prog 90:=em func90
theorem zC0:Ent prog 91:=em func91
theorem ent92:Ent prog 92:=em func92
theorem ent93:Ent prog 93:=em func93
theorem zS8:Ent prog 94:=em func94
theorem ent96:Ent prog 96:=em func96
theorem ent97:Ent prog 97:=em func97
theorem ent98:Ent prog 98:=em func98
theorem ent99:Ent prog 99:=em func99
theorem ent100:Ent prog 100:=em func100
theorem zS9:Ent prog 101:=em func101
theorem ent102:Ent prog 102:=em func102
theorem ent103:Ent prog 103:=em func103
theorem zLC:Ent prog 104:=em func104
theorem zTA:Ent prog 105:=em func105
theorem zLD:Ent prog 106:=em func106
theorem ent107:Ent prog 107:=em func107
theorem zLE:Ent prog 108:=em func108
theorem ent109:Ent prog 109:=em func109
theorem zTB:Ent prog 110:=em func110
theorem zTC:Ent prog 111:=em func111
theorem zEV:Ent prog 112:=em func112
theorem ent113:Ent prog 113:=em func113
theorem ent114:Ent prog 114:=em func114
theorem ent115:Ent prog 115:=em func115
theorem ent116:Ent prog 116:=em func116
theorem ent117:Ent prog 117:=em func117
theorem ent118:Ent prog 118:=em func118
theorem ent119:Ent prog 119:=em func119
theorem ent120:Ent prog 120:=em func120
theorem ent121:Ent prog 121:=em func121
theorem ent122:Ent prog 122:=em func122
theorem ent123:Ent prog 123:=em func123
theorem ent124:Ent prog 124:=em func124
theorem ent125:Ent prog 125:=em func125
theorem ent126:Ent prog 126:=em func126
theorem zHa:Ent prog 127:=em func127
theorem zIy:Ent prog 128:=em func128
theorem zHb:Ent prog 129:=em func129
theorem zTD:Ent prog 130:=em func130
theorem zLF:Ent prog 131:=em func131
theorem zLG:Ent prog 132:=em func132
theorem zLH:Ent prog 133:=em func133
theorem ent134:Ent prog 134:=em func134
theorem zOF:Ent prog 135:=em func135
theorem zOG:Ent prog 136:=em func136
theorem zOH:Ent prog 139:=em func139
theorem ent140:Ent prog 140:=em func140
theorem zTE:Ent prog 141:=em func141
theorem ent142:Ent prog 142:=em func142
theorem ent143:Ent prog 143:=em func143
theorem ent144:Ent prog 144:=em func144
theorem ent145:Ent prog 145:=em func145
theorem zFR:Ent prog 146:=em func146
theorem ent147:Ent prog 147:=em func147
theorem ent148:Ent prog 148:=em func148
theorem ent149:Ent prog 149:=em func149
theorem zTF:Ent prog 150:=em func150
theorem ent151:Ent prog 151:=em func151
theorem ent152:Ent prog 152:=em func152
theorem ent153:Ent prog 153:=em func153
theorem ent154:Ent prog 154:=em func154
theorem ent155:Ent prog 155:=em func155
theorem ent156:Ent prog 156:=em func156
theorem ent157:Ent prog 157:=em func157
theorem ent158:Ent prog 158:=em func158
theorem ent159:Ent prog 159:=em func159
theorem ent160:Ent prog 160:=em func160
theorem ent161:Ent prog 161:=em func161
theorem ent162:Ent prog 162:=em func162
theorem ent163:Ent prog 163:=em func163
theorem ent164:Ent prog 164:=em func164
theorem ent165:Ent prog 165:=em func165
theorem ent166:Ent prog 166:=em func166
theorem ent167:Ent prog 167:=em func167
theorem ent168:Ent prog 168:=em func168
theorem ent169:Ent prog 169:=em func169
theorem ent170:Ent prog 170:=em func170
theorem ent171:Ent prog 171:=em func171
theorem ent172:Ent prog 172:=em func172
theorem ent173:Ent prog 173:=em func173
theorem ent174:Ent prog 174:=em func174
theorem ent175:Ent prog 175:=em func175
theorem zLI:Ent prog 176:=em func176
theorem zTG:Ent prog 177:=em func177
theorem ent178:Ent prog 178:=em func178
theorem zLJ:Ent prog 179:=em func179
theorem zLK:Ent prog 180:=em func180
theorem ent181:Ent prog 181:=em func181
theorem ent182:Ent prog 182:=em func182
theorem zTH:Ent prog 183:=em func183
theorem ent184:Ent prog 184:=em func184
theorem ent185:Ent prog 185:=em func185
theorem ent186:Ent prog 186:=em func186
theorem zOI:Ent prog 187:=em func187
theorem ent188:Ent prog 188:=em func188
theorem ent189:Ent prog 189:=em func189
theorem ent190:Ent prog 190:=em func190
theorem ent191:Ent prog 191:=em func191
theorem ent203:Ent prog 203:=em func203
theorem ent204:Ent prog 204:=em func204
theorem zTI:Ent prog 205:=em func205
theorem zIz:Ent prog 206:=em func206
theorem zOJ:Ent prog 207:=em func207
theorem zOK:Ent prog 208:=em func208
theorem zA3:Ent prog 209:=em func209
theorem zLL:Ent prog 210:=em func210
theorem zA4:Ent prog 211:=em func211
theorem zTJ:Ent prog 212:=em func212
theorem ent213:Ent prog 213:=em func213
theorem zTK:Ent prog 214:=em func214
theorem zTL:Ent prog 215:=em func215
theorem zI0:Ent prog 216:=em func216
theorem zLM:Ent prog 217:=em func217
theorem zLN:Ent prog 218:=em func218
theorem zOL:Ent prog 219:=em func219
theorem zOM:Ent prog 220:=em func220
theorem ent221:Ent prog 221:=em func221
theorem ent222:Ent prog 222:=em func222
theorem zTM:Ent prog 223:=em func223
theorem zGT:Ent prog 224:=em func224
theorem zLO:Ent prog 225:=em func225
theorem zTN:Ent prog 226:=em func226
theorem zTO:Ent prog 227:=em func227
theorem zEW:Ent prog 228:=em func228
theorem zTP:Ent prog 229:=em func229
theorem zDF:Ent prog 230:=em func230
theorem ent231:Ent prog 231:=em func231
theorem ent232:Ent prog 232:=em func232
theorem ent233:Ent prog 233:=em func233
theorem ent234:Ent prog 234:=em func234
theorem ent235:Ent prog 235:=em func235
theorem zON:Ent prog 236:=em func236
theorem zLP:Ent prog 237:=em func237
theorem zTQ:Ent prog 238:=em func238
theorem zTR:Ent prog 239:=em func239
theorem ent240:Ent prog 240:=em func240
theorem ent241:Ent prog 241:=em func241
theorem zOO:Ent prog 242:=em func242
theorem zTS:Ent prog 248:=em func248
theorem ent249:Ent prog 249:=em func249
theorem ent250:Ent prog 250:=em func250
theorem ent251:Ent prog 251:=em func251
theorem zLQ:Ent prog 252:=em func252
theorem ent253:Ent prog 253:=em func253
theorem ent254:Ent prog 254:=em func254
theorem zTT:Ent prog 255:=em func255
theorem zTU:Ent prog 256:=em func256
theorem ent257:Ent prog 257:=em func257
theorem ent258:Ent prog 258:=em func258
theorem zTV:Ent prog 259:=em func259
theorem ent260:Ent prog 260:=em func260
theorem zTW:Ent prog 261:=em func261
theorem zOP:Ent prog 262:=em func262
theorem ent263:Ent prog 263:=em func263
theorem ent264:Ent prog 264:=em func264
theorem ent265:Ent prog 265:=em func265
theorem ent267:Ent prog 267:=em func267
theorem zTX:Ent prog 270:=em func270
theorem zTY:Ent prog 271:=em func271
theorem zTZ:Ent prog 273:=em func273
theorem ent283:Ent prog 283:=em func283
theorem zOQ:Ent prog 284:=em func284
theorem ent321:Ent prog 321:=em func321
theorem ent322:Ent prog 322:=em func322
theorem ent323:Ent prog 323:=em func323
theorem ent324:Ent prog 324:=em func324
theorem ent325:Ent prog 325:=em func325
theorem ent326:Ent prog 326:=em func326
theorem ent327:Ent prog 327:=em func327
theorem ent328:Ent prog 328:=em func328
theorem zTa:Ent prog 331:=em func331
theorem zTb:Ent prog 332:=em func332
theorem mixed:prog.follows .mixedOrders=true:=by kernel_rfl
def zp (n m:Int):Bool:=decide (n >= 1)&&decide (n<=m)
theorem zCe (n m:Int)(w:World):Cr 127 [.int .i64 n,.int .i64 m] (.bool (zp n m)) w:=by refine eS func127 ntmps127 fun H=>?_;(repeat' first|refine yW ?_|(refine y17 ?_ ?_;all_goals intro h)|fail);all_goals exact zG rfl H.cl (by simp[zp,h])
theorem zD8 (n m:Int)(w:World):Cr 128 [.int .i64 n,.int .i64 m] (.bool (zp n m)) w:=by refine eS func128 ntmps128 fun H=>?_;(repeat' first|refine yW ?_|(refine y17 ?_ ?_;all_goals intro h)|fail);all_goals exact zG rfl H.cl (by simp[zp,h])
structure Bid where
 acct:Int
 amount:Int
 deriving DecidableEq,Inhabited
def Bid.cells (b:Bid):List Value:=[.int .i64 b.acct,.int .i64 b.amount]
structure Auc where
 id:Int
 seller:Int
 inst:Int
 sealed:Bool
 qty:Int
 reserve:Int
 step:Int
 fin:Int
 bids:List Bid
 deriving DecidableEq,Inhabited
def Auc.cells (x:Auc)(a:OA)(cap:Nat):List Value :=
 [.int .i64 x.id,.int .i64 x.seller,.int .i64 x.inst,.bool x.sealed,.int .i64 x.qty,.int .i64 x.reserve,.int .i64 x.step,.int .i64 x.fin,.slice a x.bids.length cap]
def bel (l:List Bid)(j:Nat):List Value:=(l.getD j default).cells
def Bids (F:zA)(a:OA)(cap:Nat)(l:List Bid):Prop:=SlA F 2 a l.length cap (bel l)
theorem c_of (x:Auc)(a:OA)(cap:Nat)(w:World):Cr 129 [.agg (x.cells a cap).toArray] (.iface (if x.sealed then 230 else 231) (.agg #[])) w:=by refine eS func129 ntmps129 fun H=>?_;(repeat' first|refine yW ?_|(refine yB ?_;intro b w H)|(refine y23 ?_ ?_;all_goals intro h)|fail);all_goals exact zG rfl H.cl (by simp[h])
theorem zWH (c d:Bid)(T:TypeId)(b:Nat)(w:World)(F:zA)(hF:Mem w F)(hm:(b,Obj.cells d.cells.toArray T (0,0))∈F) :
  Cr 190 [.agg c.cells.toArray,(pt b)] (.bool (c.acct==d.acct)) w:=by refine eS func190 ntmps190 fun H=>?_;(repeat' first|refine yW ?_|(refine yB ?_;intro b w H)|(refine za rfl rfl (zF sg rfl rfl (H.memF hF) hm rfl rfl) ?_)|fail);all_goals exact zG rfl H.cl rfl
def zFw (p:Nat->Bool):Nat->Nat->Int
 | _,0=>-1
 | k,n+1=>if p k then(k:Int) else zFw p (k+1) n
def idx (p:Nat->Bool)(n:Nat):Int:=zFw p 0 n
theorem zEX (p:Nat->Bool):∀ (k s m:Nat),(∀ j,j<k->p (s+j)=false)->k<=m->zFw p s m=zFw p (s+k) (m - k)
 | 0,s,m,_,_=>rfl
 | k+1,s,m,h,hm=>by
   obtain⟨m',rfl⟩:∃ m',m=m'+1:=⟨m - 1,by omega⟩
   have h0:=h 0 qO
   simp only[Nat.add_zero] at h0
   rw[zFw,h0]
   simp only[Bool.false_eq_true,if_false]
   rw[zEX p k (s+1) m' (fun j hj=>by have:=h (j+1) qO;rwa [show s+1+j=s+(j+1) by omega]) qO]
   congr 1<;>omega
theorem zBv {p:Nat->Bool}{n k:Nat}(hk:k<n)(h:∀ j,j<k->p j=false)(h1:p k=true):idx p n=k:=by unfold idx;rw[zEX p k 0 n (by simpa using h) qO];obtain⟨m,hm⟩:∃ m,n - k=m+1:=⟨n - k - 1,by omega⟩;rw[hm,zFw,yyv,h1];rfl
theorem zA8 {p:Nat->Bool}{n:Nat}(h:∀ j,j<n->p j=false):idx p n=-1:=by unfold idx;rw[zEX p n 0 n (by simpa using h) (Nat.le_refl _),Nat.sub_self];rfl
theorem zX (p:Nat->Bool)(n:Nat):(∃ k,k<n/\(∀ j,j<k->p j=false)/\p k=true/\idx p n=k)\/((∀ j,j<n->p j=false)/\idx p n=-1):=by{
by_cases h:∃ k,k<n/\p k=true
.have:∃ k,k<n/\(∀ j,j<k->p j=false)/\p k=true:=by
  obtain⟨k,hk⟩:=h;induction k using Nat.strongRecOn with
  | _ k ih =>
    by_cases h2:∃ j,j<k/\p j=true
    .obtain⟨j,hj,hp⟩:=h2;exact ih j hj ⟨by omega,hp⟩
    .exact⟨k,hk.1,fun j hj=>by cases hp:p j with|false=>rfl|true=>exact absurd ⟨j,hj,hp⟩ h2,hk.2⟩
 obtain⟨k,h1,h2,h3⟩:=this;exact .inl ⟨k,h1,h2,h3,zBv h1 h2 h3⟩
.have h':∀ j,j<n->p j=false:=fun j hj=>by cases hp:p j with|false=>rfl|true=>exact absurd ⟨j,hj,hp⟩ h
 exact .inr ⟨h',zA8 h'⟩}
theorem zOR {n cap:Nat}{a:OA}{el:Nat->List Value}{f:FuncId}{caps:List Value}{F:zA}(p:Nat->Bool)(w0:World)(hF:Mem w0 F)(hs:SlA F 2 a n cap el)(hf:Ent prog f)
  (hp:∀ j,j<n->∀ w,Cl w0 w->Cr f ([Value.agg (el j).toArray]++caps) (.bool (p j)) w) :
  Cr 240 [.slice a n cap,.func (.func f) #[] caps.toArray] (.int .i64 (idx p n)) w0:=by{
obtain⟨hn,hc,b,off,cs,T,fr,hs⟩:=hs;refine eS func240 ntmps240 fun H=>?_;(repeat' first|refine yX ?_|fail);refine zD [(4,5),(8,18)] (fun k:Nat=>[(8,.int .i64 (k:Int))]) (fun k w=>k<=n/\(∀ j,j<k->p j=false)/\St w0 [] w) (fun k=>n - k) 0 ⟨rfl,trivial⟩ ⟨zzD _,fun j hj=>by omega,H⟩ ?_;clear H;rintro k g w ⟨hk,hpk,H⟩;(repeat' first|refine yX ?_|fail);refine zB rfl (fun h=>?_) (fun h=>?_)
.have hlt:k<n:=by simpa using h
 (repeat' first|refine yX ?_|(refine za rfl rfl (zAO sg hs rfl rfl rfl rfl rfl rfl rfl rfl qO qO) ?_)|(refine za rfl rfl (zA7 sg hs (H.memF hF) rfl rfl rfl rfl rfl hlt) ?_)|(refine OX.call rfl rfl (zAq hf rfl rfl rfl) (hp k hlt _ H.cl) ?_;refine wQ H ?_;clear H;intro w H)|fail);refine zB rfl (fun h2=>?_) (fun h2=>?_)
 ·(repeat' first|refine yX ?_|fail);exact zG rfl H.cl (by rw[zBv hlt hpk h2])
 ·(repeat' first|refine yX ?_|fail);refine zC (k+1) rfl ⟨zU qO,trivial⟩ ⟨hlt,fun j hj=>?_,H⟩ qO;by_cases hj':j=k
  .rw[hj',h2]
  .exact hpk j qO
·(repeat' first|refine yX ?_|fail);have hkn:k=n:=by simp at h;omega
 exact zG rfl H.cl (by rw[zA8 (hkn ▸ hpk)])}
theorem zDx {n cap:Nat}{a:OA}{el:Nat->List Value}{f:FuncId}{caps:List Value}{F:zA}(p:Nat->Bool)(w0:World)(hF:Mem w0 F)(hs:SlA F 2 a n cap el)(hf:Ent prog f)
  (hp:∀ j,j<n->∀ w,Cl w0 w->Cr f ([Value.agg (el j).toArray]++caps) (.bool (p j)) w) :
  Cr 187 [.slice a n cap,.func (.func f) #[] caps.toArray] (.bool (decide (idx p n >= 0))) w0:=by refine eS func187 ntmps187 fun H=>?_;(repeat' first|refine yW ?_|(refine c0 ent240 ?_;refine⟨_,zOR p _ (H.memF hF) hs hf (fun j hj w' hw'=>hp j hj w' (H.cl.trans hw')),?_⟩;clear H;intro w H)|fail);all_goals exact zG rfl H.cl rfl
theorem zEY {n cap:Nat}{a:OA}{el:Nat->List Value}{f:FuncId}{caps:List Value}{F:zA}(p:Nat->Bool)(w0:World)(hF:Mem w0 F)(hs:SlA F 9 a n cap el)(hf:Ent prog f)
  (hp:∀ j,j<n->∀ w,Cl w0 w->Cr f ([Value.agg (el j).toArray]++caps) (.bool (p j)) w) :
  Cr 88 [.slice a n cap,.func (.func f) #[] caps.toArray] (.int .i64 (idx p n)) w0:=by{
obtain⟨hn,hc,b,off,cs,T,fr,hs⟩:=hs;refine eS func88 ntmps88 fun H=>?_;(repeat' first|refine yX ?_|fail);refine zD [(4,5),(8,18)] (fun k:Nat=>[(8,.int .i64 (k:Int))]) (fun k w=>k<=n/\(∀ j,j<k->p j=false)/\St w0 [] w) (fun k=>n - k) 0 ⟨rfl,trivial⟩ ⟨zzD _,fun j hj=>by omega,H⟩ ?_;clear H;rintro k g w ⟨hk,hpk,H⟩;(repeat' first|refine yX ?_|fail);refine zB rfl (fun h=>?_) (fun h=>?_)
.have hlt:k<n:=by simpa using h
 (repeat' first|refine yX ?_|(refine za rfl rfl (zAO sg hs rfl rfl rfl rfl rfl rfl rfl rfl qO qO) ?_)|(refine za rfl rfl (zA7 sg hs (H.memF hF) rfl rfl rfl rfl rfl hlt) ?_)|(refine OX.call rfl rfl (zAq hf rfl rfl rfl) (hp k hlt _ H.cl) ?_;refine wQ H ?_;clear H;intro w H)|fail);refine zB rfl (fun h2=>?_) (fun h2=>?_)
 ·(repeat' first|refine yX ?_|fail);exact zG rfl H.cl (by rw[zBv hlt hpk h2])
 ·(repeat' first|refine yX ?_|fail);refine zC (k+1) rfl ⟨zU qO,trivial⟩ ⟨hlt,fun j hj=>?_,H⟩ qO;by_cases hj':j=k
  .rw[hj',h2]
  .exact hpk j qO
·(repeat' first|refine yX ?_|fail);have hkn:k=n:=by simp at h;omega
 exact zG rfl H.cl (by rw[zA8 (hkn ▸ hpk)])}
theorem zGU {n cap:Nat}{a:OA}{el:Nat->List Value}{F:zA}(w0:World)(hF:Mem w0 F)(hs:SlA F 2 a n cap el)(h1:∀ j,j<n->∀ u∈el j,u.oneCell'=true)(hel:∀ j,j<n->(el j).length=2)(hn:n*16<=140737488355328) :
  Cf 85 [.slice a n cap] (fun M v=>∃ a' cap',v=.slice a' n cap'/\Go.Sk.Own M 136 2 a' n cap' ((List.range n).flatMap el)) w0:=by{
obtain⟨hnc,hcb,b,off,cs,T,fr,hs⟩:=hs;refine eS func85 ntmps85 fun H=>?_;(repeat' first|refine yX ?_|(refine za rfl rfl (Yq.nilS sg rfl rfl rfl rfl) ?_)|fail);refine zB rfl (fun h=>?_) (fun h=>?_)
.have hn0:n=0:=by
  rcases yyn n with h0|h0
  .exact h0
  .rw[(hs h0).1] at h;cases h
 subst hn0;(repeat' first|refine yX ?_|fail);exact zL rfl H ⟨_,_,rfl,zWD _ _ _⟩
.have hM:=H.memF hF;have hlen:∀ m,m<=n->((List.range m).flatMap el).length=m*2:=by
  intro m;induction m with
  | zero=>intro _;rfl
  | succ m ih=>intro hm;rw[yys,yy9,yy4,ih qO,yya,hel m qO];omega
 have hflat:∀ m,m<=n->∀ j u,((List.range m).flatMap el)[j]?=some u->0<n->cs[off+j]?=some u:=by
  intro m;induction m with
  | zero=>intro _ j u hj;cases hj
  | succ m ih =>
    intro hm j u hj h0;rw[yys,yy9,yya] at hj;by_cases hjm:j<m*2
    .rw[yyl (by rw[hlen m qO];exact hjm)] at hj;exact ih qO j u hj h0
    .rw[yym (by rw[hlen m qO];omega),hlen m qO] at hj;have h2:=((hs h0).2.2 m qO).2;rw[<- h2,List.getElem?_take] at hj;split at hj
     .rw[yyr] at hj;rw[show off+j=off+m*2+(j - m*2) by omega];exact hj
     .cases hj
 have hsrc:∀ w,Mem w F->Src w (.slice a n cap) n ((List.range n).flatMap el):=by
  intro w hM;rcases yyn n with h0|h0
  .subst h0;cases a with
   | none=>cases h
   | some a=>exact .inl ⟨a,cap,rfl,fun j u hj=>by cases hj⟩
  .obtain⟨rfl,hm,_⟩:=hs h0;refine .inl ⟨_,_,rfl,fun j u hj=>?_⟩;rw[zAA,zB9 hM hm];exact hflat n (zzC _) j u hj h0
 clear hM;have hone:∀ u∈(List.range n).flatMap el,u.oneCell'=true:=by intro u hu;obtain⟨j,hj,hu⟩:=List.mem_flatMap.1 hu;exact h1 j (List.mem_range.1 hj) u hu
 (repeat' first|refine yX ?_|(refine zCG sg H rfl rfl rfl rfl rfl rfl ?_;intro b w H _)|(refine zY sg 2 16 (M:=[]) (G:=[]) H rfl rfl rfl rfl rfl rfl rfl rfl rfl rfl rfl (zWD _ _ _) (hsrc _ (H.memF hF)) (hlen n (zzC _)) hone (by unfold maxLen;omega) qO ?_;intro a' cap' M w hO H;simp only[yyv,List.nil_append] at hO;rw[List.append_nil] at H;rw[yyv])|fail);exact zL rfl H ⟨_,_,rfl,hO⟩}
theorem zGV {n cap:Nat}{a:OA}{el:Nat->List Value}{F:zA}(w0:World)(hF:Mem w0 F)(hs:SlA F 9 a n cap el)(h1:∀ j,j<n->∀ u∈el j,u.oneCell'=true)(hel:∀ j,j<n->(el j).length=9)(hn:n*88<=140737488355328) :
  Cf 44 [.slice a n cap] (fun M v=>∃ a' cap',v=.slice a' n cap'/\Go.Sk.Own M 86 9 a' n cap' ((List.range n).flatMap el)) w0:=by{
obtain⟨hnc,hcb,b,off,cs,T,fr,hs⟩:=hs;refine eS func44 ntmps44 fun H=>?_;(repeat' first|refine yX ?_|(refine za rfl rfl (Yq.nilS sg rfl rfl rfl rfl) ?_)|fail);refine zB rfl (fun h=>?_) (fun h=>?_)
.have hn0:n=0:=by
  rcases yyn n with h0|h0
  .exact h0
  .rw[(hs h0).1] at h;cases h
 subst hn0;(repeat' first|refine yX ?_|fail);exact zL rfl H ⟨_,_,rfl,zWD _ _ _⟩
.have hM:=H.memF hF;have hlen:∀ m,m<=n->((List.range m).flatMap el).length=m*9:=by
  intro m;induction m with
  | zero=>intro _;rfl
  | succ m ih=>intro hm;rw[yys,yy9,yy4,ih qO,yya,hel m qO];omega
 have hflat:∀ m,m<=n->∀ j u,((List.range m).flatMap el)[j]?=some u->0<n->cs[off+j]?=some u:=by
  intro m;induction m with
  | zero=>intro _ j u hj;cases hj
  | succ m ih =>
    intro hm j u hj h0;rw[yys,yy9,yya] at hj;by_cases hjm:j<m*9
    .rw[yyl (by rw[hlen m qO];exact hjm)] at hj;exact ih qO j u hj h0
    .rw[yym (by rw[hlen m qO];omega),hlen m qO] at hj;have h2:=((hs h0).2.2 m qO).2;rw[<- h2,List.getElem?_take] at hj;split at hj
     .rw[yyr] at hj;rw[show off+j=off+m*9+(j - m*9) by omega];exact hj
     .cases hj
 have hsrc:∀ w,Mem w F->Src w (.slice a n cap) n ((List.range n).flatMap el):=by
  intro w hM;rcases yyn n with h0|h0
  .subst h0;cases a with
   | none=>cases h
   | some a=>exact .inl ⟨a,cap,rfl,fun j u hj=>by cases hj⟩
  .obtain⟨rfl,hm,_⟩:=hs h0;refine .inl ⟨_,_,rfl,fun j u hj=>?_⟩;rw[zAA,zB9 hM hm];exact hflat n (zzC _) j u hj h0
 clear hM;have hone:∀ u∈(List.range n).flatMap el,u.oneCell'=true:=by intro u hu;obtain⟨j,hj,hu⟩:=List.mem_flatMap.1 hu;exact h1 j (List.mem_range.1 hj) u hu
 (repeat' first|refine yX ?_|(refine zCG sg H rfl rfl rfl rfl rfl rfl ?_;intro b w H _)|(refine zY sg 9 88 (M:=[]) (G:=[]) H rfl rfl rfl rfl rfl rfl rfl rfl rfl rfl rfl (zWD _ _ _) (hsrc _ (H.memF hF)) (hlen n (zzC _)) hone (by unfold maxLen;omega) qO ?_;intro a' cap' M w hO H;simp only[yyv,List.nil_append] at hO;rw[List.append_nil] at H;rw[yyv])|fail);exact zL rfl H ⟨_,_,rfl,hO⟩}
theorem zGW {n cap:Nat}{a:OA}{el:Nat->List Value}{f:FuncId}{caps:List Value}{F:zA}(p:Nat->Bool)(w0:World)(hF:Mem w0 F)(hs:SlA F 6 a n cap el)(hf:Ent prog f)
  (hp:∀ j,j<n->∀ w,Cl w0 w->Cr f ([Value.agg (el j).toArray]++caps) (.bool (p j)) w) :
  Cr 136 [.slice a n cap,.func (.func f) #[] caps.toArray] (.int .i64 (idx p n)) w0:=by{
obtain⟨hn,hc,b,off,cs,T,fr,hs⟩:=hs;refine eS func136 ntmps136 fun H=>?_;(repeat' first|refine yX ?_|fail);refine zD [(4,5),(8,18)] (fun k:Nat=>[(8,.int .i64 (k:Int))]) (fun k w=>k<=n/\(∀ j,j<k->p j=false)/\St w0 [] w) (fun k=>n - k) 0 ⟨rfl,trivial⟩ ⟨zzD _,fun j hj=>by omega,H⟩ ?_;clear H;rintro k g w ⟨hk,hpk,H⟩;(repeat' first|refine yX ?_|fail);refine zB rfl (fun h=>?_) (fun h=>?_)
.have hlt:k<n:=by simpa using h
 (repeat' first|refine yX ?_|(refine za rfl rfl (zAO sg hs rfl rfl rfl rfl rfl rfl rfl rfl qO qO) ?_)|(refine za rfl rfl (zA7 sg hs (H.memF hF) rfl rfl rfl rfl rfl hlt) ?_)|(refine OX.call rfl rfl (zAq hf rfl rfl rfl) (hp k hlt _ H.cl) ?_;refine wQ H ?_;clear H;intro w H)|fail);refine zB rfl (fun h2=>?_) (fun h2=>?_)
 ·(repeat' first|refine yX ?_|fail);exact zG rfl H.cl (by rw[zBv hlt hpk h2])
 ·(repeat' first|refine yX ?_|fail);refine zC (k+1) rfl ⟨zU qO,trivial⟩ ⟨hlt,fun j hj=>?_,H⟩ qO;by_cases hj':j=k
  .rw[hj',h2]
  .exact hpk j qO
·(repeat' first|refine yX ?_|fail);have hkn:k=n:=by simp at h;omega
 exact zG rfl H.cl (by rw[zA8 (hkn ▸ hpk)])}
theorem zDy {n cap:Nat}{a:OA}{el:Nat->List Value}{f:FuncId}{caps:List Value}{F:zA}(p:Nat->Bool)(w0:World)(hF:Mem w0 F)(hs:SlA F 6 a n cap el)(hf:Ent prog f)
  (hp:∀ j,j<n->∀ w,Cl w0 w->Cr f ([Value.agg (el j).toArray]++caps) (.bool (p j)) w) :
  Cr 133 [.slice a n cap,.func (.func f) #[] caps.toArray] (.bool (decide (idx p n >= 0))) w0:=by refine eS func133 ntmps133 fun H=>?_;(repeat' first|refine yW ?_|(refine c0 zOG ?_;refine⟨_,zGW p _ (H.memF hF) hs hf (fun j hj w' hw'=>hp j hj w' (H.cl.trans hw')),?_⟩;clear H;intro w H)|fail);all_goals exact zG rfl H.cl rfl
theorem zEZ {n cap:Nat}{a:OA}{el:Nat->List Value}{f:FuncId}{caps:List Value}{F:zA}(p:Nat->Bool)(w0:World)(hF:Mem w0 F)(hs:SlA F 4 a n cap el)(hf:Ent prog f)
  (hp:∀ j,j<n->∀ w,Cl w0 w->Cr f ([Value.agg (el j).toArray]++caps) (.bool (p j)) w) :
  Cr 108 [.slice a n cap,.func (.func f) #[] caps.toArray] (.int .i64 (idx p n)) w0:=by{
obtain⟨hn,hc,b,off,cs,T,fr,hs⟩:=hs;refine eS func108 ntmps108 fun H=>?_;(repeat' first|refine yX ?_|fail);refine zD [(4,5),(8,18)] (fun k:Nat=>[(8,.int .i64 (k:Int))]) (fun k w=>k<=n/\(∀ j,j<k->p j=false)/\St w0 [] w) (fun k=>n - k) 0 ⟨rfl,trivial⟩ ⟨zzD _,fun j hj=>by omega,H⟩ ?_;clear H;rintro k g w ⟨hk,hpk,H⟩;(repeat' first|refine yX ?_|fail);refine zB rfl (fun h=>?_) (fun h=>?_)
.have hlt:k<n:=by simpa using h
 (repeat' first|refine yX ?_|(refine za rfl rfl (zAO sg hs rfl rfl rfl rfl rfl rfl rfl rfl qO qO) ?_)|(refine za rfl rfl (zA7 sg hs (H.memF hF) rfl rfl rfl rfl rfl hlt) ?_)|(refine OX.call rfl rfl (zAq hf rfl rfl rfl) (hp k hlt _ H.cl) ?_;refine wQ H ?_;clear H;intro w H)|fail);refine zB rfl (fun h2=>?_) (fun h2=>?_)
 ·(repeat' first|refine yX ?_|fail);exact zG rfl H.cl (by rw[zBv hlt hpk h2])
 ·(repeat' first|refine yX ?_|fail);refine zC (k+1) rfl ⟨zU qO,trivial⟩ ⟨hlt,fun j hj=>?_,H⟩ qO;by_cases hj':j=k
  .rw[hj',h2]
  .exact hpk j qO
·(repeat' first|refine yX ?_|fail);have hkn:k=n:=by simp at h;omega
 exact zG rfl H.cl (by rw[zA8 (hkn ▸ hpk)])}
theorem zJ7 {n cap:Nat}{a:OA}{el:Nat->List Value}{f:FuncId}{caps:List Value}{F:zA}(p:Nat->Bool)(w0:World)(hF:Mem w0 F)(hs:SlA F 4 a n cap el)(hf:Ent prog f)
  (hp:∀ j,j<n->∀ w,Cl w0 w->Cr f ([Value.agg (el j).toArray]++caps) (.bool (p j)) w) :
  Cr 181 [.slice a n cap,.func (.func f) #[] caps.toArray] (.bool (decide (idx p n >= 0))) w0:=by refine eS func181 ntmps181 fun H=>?_;(repeat' first|refine yW ?_|(refine c0 zLE ?_;refine⟨_,zEZ p _ (H.memF hF) hs hf (fun j hj w' hw'=>hp j hj w' (H.cl.trans hw')),?_⟩;clear H;intro w H)|fail);all_goals exact zG rfl H.cl rfl
theorem zJ8 {n cap:Nat}{a:OA}{el:Nat->List Value}{f:FuncId}{caps:List Value}{F:zA}(p:Nat->Bool)(w0:World)(hF:Mem w0 F)(hs:SlA F 9 a n cap el)(hf:Ent prog f)
  (hp:∀ j,j<n->∀ w,Cl w0 w->Cr f ([Value.agg (el j).toArray]++caps) (.bool (p j)) w) :
  Cr 188 [.slice a n cap,.func (.func f) #[] caps.toArray] (.bool (decide (idx p n >= 0))) w0:=by refine eS func188 ntmps188 fun H=>?_;(repeat' first|refine yW ?_|(refine c0 zMg ?_;refine⟨_,zEY p _ (H.memF hF) hs hf (fun j hj w' hw'=>hp j hj w' (H.cl.trans hw')),?_⟩;clear H;intro w H)|fail);all_goals exact zG rfl H.cl rfl
end Go.Proofs.YtejhijhnlogikaaGreatDoor
