/- Steps of the proof. -/
import Derived.KernelRfl
import Derived.Laws.IdiomStrings
import Derived.Shelf.SlLaysE
import Derived.Shelf.SlLaysF0
import Derived.Shelf.SlLaysM
import Derived.Shelf.SlicesE.Compact
import Derived.Shelf.SortM.Plain
import Derived.Test.YtejhijhnlogikaaGreatDoorProg
import Derived.Test.YtejhijhnlogikaaGreatDoorMe06
set_option linter.all false
set_option maxHeartbeats 16000000
namespace Go.Proofs.YtejhijhnlogikaaGreatDoor
section
open Go Go.Sk Go.RowKit Tryz
attribute [local irreducible] Go.Calls
theorem chkP (b:Bool)(x y:Int)(w:World):(Instr.checkKey b 10000 228 (.agg #[.int .i64 x,.int .i64 y])).run prog w=.ok () w:=by
 have h3:∀ (v:Value) (w:World),(Instr.checkKey b 9999 3 v).run prog w=.ok () w:=by intro v w;show(Instr.checkKey b (9998+1) 3 v).run prog w=_;rw[Instr.checkKey];simp only[Sem.run_bind,run_underlying (show prog.underlying 3=some (.int .i64) from sg.und (t:=3) rfl),Result.andThen_ok];rfl
 have hp:∀ (o:Nat) (v:Value),(#[Value.int .i64 x,Value.int .i64 y]:Array Value).toList[o]?=some v->(part 3 #[Value.int .i64 x,Value.int .i64 y] o).run prog w=.ok v w:=fun o v h=>zC3 sg (t:=3) rfl _ o h w;show(Instr.checkKey b (9999+1) 228 _).run prog w=_;rw[Instr.checkKey];simp only[Sem.run_bind,run_underlying (sg.und (t:=228) rfl),Result.andThen_ok];rw[<- Array.forIn_toList];simp[Sem.run_bind,hp 0 (.int .i64 x) rfl,hp 1 (.int .i64 y) rfl,h3]
def pv2 (p:Int × Int):Value:=.agg #[.int .i64 p.1,.int .i64 p.2]
def KP:KeyT prog 228 (Int × Int) where
 v:=pv2
 eq x y w:=by
  have:=zLR sg (t:=228) rfl rfl (by kernel_rfl) (by decide +kernel) (cs:=[.int .i64 x.1,.int .i64 x.2]) (ds:=[.int .i64 y.1,.int .i64 y.2]) (r:=x.1==y.1&&(x.2==y.2&&true)) rfl w
  refine this.trans (congrArg (fun b=>Result.ok b w) ?_)
  rw[Bool.eq_iff_iff,Bool.and_true,yy3,beq_iff_eq,beq_iff_eq,decide_eq_true_eq]
  exact Prod.ext_iff.symm
 chk b x w:=chkP b x.1 x.2 w
 same x:=by
  show Instr.sameBits (9999+1) _ _=true
  simp[Instr.sameBits,pv2]
 d:=_
 und:=sg.und (t:=228) rfl
 now x y:=.inl rfl
def zA9 (y:P3):Int × Int:=(y.1,y.2.1)
def zHd (l:List P3)(x:Int × Int):Int:=l.foldl (fun a y=>if zA9 y=x then IntKind.i64.wrap (a+y.2.2) else a) 0
def zJA (l:List P3)(x:Int × Int):Bool:=l.any fun y=>decide (zA9 y=x)
def atP (l:List P3)(x:Int × Int):Option Int:=if zJA l x then some (zHd l x) else none
theorem zRQ (l:List P3)(y:P3)(x:Int × Int):zHd (l++[y]) x=if zA9 y=x then IntKind.i64.wrap (zHd l x+y.2.2) else zHd l x:=by simp[zHd]
theorem zRR (l:List P3)(y:P3)(x:Int × Int):zJA (l++[y]) x=(zJA l x||decide (zA9 y=x)):=by simp[zJA]
theorem zKX {l:List P3}{x:Int × Int}(h:zJA l x=false):zHd l x=0:=by{
have:∀ (l:List P3) (a:Int),zJA l x=false->l.foldl (fun a y=>if zA9 y=x then IntKind.i64.wrap (a+y.2.2) else a) a=a:=by
 intro l;induction l with
 | nil=>intro a _;rfl
 | cons y t ih =>
   intro a h;unfold zJA at h;rw[List.any_cons,Bool.or_eq_false_iff] at h;rw[List.foldl_cons,if_neg (of_decide_eq_false h.1)];exact ih a h.2
exact this l 0 h}
theorem zMn (l:List P3)(x:Int × Int):(atP l x).getD 0=zHd l x:=by{
unfold atP;cases h:zJA l x with
| true=>rfl
| false=>rw[zKX h];rfl}
theorem zTv (l:List P3)(y:P3)(x:Int × Int):atP (l++[y]) x=if x=zA9 y then some (IntKind.i64.wrap ((atP l (zA9 y)).getD 0+y.2.2)) else atP l x:=by{
rw[zMn];unfold atP;rw[zRR,zRQ];by_cases h:zA9 y=x
.subst h;simp
.rw[if_neg h,if_neg (Ne.symm h),yyc h,Bool.or_false]}
def zAD (r:Row4):Int × Int:=(r.acct,r.asset)
def zCU (l:List Row4)(k:Nat):List (Int × Int):=(l.take k).map zAD
def zDz (s:Sta)(k:Nat):Bool:=(if zAD (rw_ s.rows k)∈zCU s.rows k then 0 else zHd (zT s) (zAD (rw_ s.rows k)))==(rw_ s.rows k).held
def zGZ (s:Sta):Bool:=(List.range s.rows.length).all (zDz s)&&(zT s).all fun y=>decide (zA9 y∈zCU s.rows s.rows.length)
theorem zWY (s:Sta)(p:SPt)(w0:World):Cf 189 [.agg (s.cells p).toArray] (fun M v=>∃ b,M=[cb b (s.cells p) 40]/\v=.func (.func 241) #[] #[(pt b)]) w0:=by refine eS func189 ntmps189 fun H=>?_;(repeat' first|refine yW ?_|(refine yB ?_;intro b w H)|fail);exact zL rfl H ⟨_,rfl,rfl⟩
theorem zWZ {ι ν:Type}[DecidableEq ι](es:List (ME ι ν))(clock:Nat)(x:ι)(z:ν):atM (zGD es clock x z) x=some ((atM es x).getD z):=by{
unfold zGD;cases h:fnd x es 0 with
| some p=>simp only[Option.isSome_some,if_true];unfold atM;rw[h];rfl
| none =>
  have ha:atM es x=none:=by unfold atM;rw[h];rfl
  simp only[Option.isSome_none,Bool.false_eq_true,if_false];rw[zLb,ha];simp}
theorem lookS {P:Program}(S:Sig P){kt:TypeId}{ι ν:Type}[DecidableEq ι]{o:Oper}{w:World}{e:Env}{M:zA}{b clock:Nat}(K:KeyT P kt ι)(val:ν->Value)(es:List (ME ι ν))(x:ι)(z u:ν)(hu:atM es x=some u){t et:TypeId}{X Y:Operand}{ti:TI}(hz:∀ w:World,(zeroValue et).run P w=.ok (val z) w)(hM:Mem w M)(hm:(b,mo K val es clock)∈M)
  (hy:ev e Y=K.v x) (ho:o.op=.lookup t X Y false) (hx:ev e X=.map (some b)) (ht:lk S.tab t=some ti) (htd:ti.d=.map kt et):Yq P o e w (val u):=by have:=Yq.lookM S (P:=P) (w:=w) K val es x z hz hM hm hy ho hx ht htd;rw[hu] at this;exact this
def JP (s:Sta)(bm ba:Nat)(k:Nat)(M:zA):Prop :=
 ∃ es clock,M=[(bm,mo KP (Value.int .i64) es clock),cb ba [.map (some bm)] 223]/\MI es clock/\∀ x,atM es x=atP ((zT s).take k) x
theorem c_held {F:zA}(s:Sta)(p:SPt)(w0:World)(hF:Mem w0 F)(hs0:StaM F s p) :
  Cr 126 [.agg (s.cells p).toArray] (.bool (zGZ s)) w0:=by{
obtain⟨hnc,hcb,b0,off,cs,T,fr,hs⟩:=hs0.rw;refine zTt [.tmp 2] func126 rfl ntmps126 rfl rfl ?_;have H:=zBm w0;refine CM.seq ?_;(repeat' first|refine yW ?_|(refine yB ?_;intro b w H)|fail);refine CM.seq ?_;(repeat' first|refine yW ?_|(refine yB ?_;intro b w H)|(refine y11 sg H ?_;intro w H)|(refine m1 H ?_;intro bm w H)|fail);refine CM.seqM ?_;refine CM.seq ?_;(repeat' first|refine yW ?_|(refine f0 ent189 ?_;refine⟨_,zWY s p _,?_⟩;clear H;intro v M w hR H;(try simp only[zca,zcb] at H);obtain⟨bp,rfl,rfl⟩:=hR)|fail);refine CM.block ?_;have hP:St w0 ([(bm,mo KP (Value.int .i64) [] 0),cb b [.map (some bm)] 223]++[cb _ _ _,cb bp _ _]) w:=H.perm (List.Perm.swap _ _ _);clear H;refine CM.rangeFunc (N:=(zT s).length) (u1P s) (u2P s) (JP s bm b) rfl rfl ent241 rfl rfl (zTu s p w0 hF hs0 (zz5 _ (zz2 _))) hP ⟨[],0,rfl,MI.nil,fun x=>rfl⟩ ?_ ?_
.clear hP;rintro l k hk M G' w ⟨es,clock,rfl,hMI,hat⟩ H;simp only[zca,zcb] at H;(repeat' first|refine yW ?_|(refine yB ?_;intro b w H)|(refine y11 sg H ?_;intro w H)|fail);refine⟨[_,_,_],H,fun G2 w H=>?_⟩;simp only[zca,zcb] at H;have hz:∀ w:World,(zeroValue 2).run prog w=.ok (Value.int .i64 0) w:=fun w=>zeroValue2 w;have hMI2:=zI8 hMI (zA9 (p3 (zT s) k)) (0:Int);have hat0:=zWZ es clock (zA9 (p3 (zT s) k)) (0:Int);have hst:∃ e∈zGD es clock (zA9 (p3 (zT s) k)) (0:Int),e.2.2=zEc es clock (zA9 (p3 (zT s) k)):=by obtain⟨e,he,h1,_⟩:=zKW (es:=es) (clock:=clock) (x:=zA9 (p3 (zT s) k)) (z:=(0:Int));exact⟨e,he,h1⟩
 (repeat' first|refine yW ?_|(refine zBD mixed 8 ?_ ?_;exact rfl;refine wQ H ?_;clear H;intro w H)|((with_reducible apply zFM);decide +kernel)|(refine' z8 3 ?_ ?_;rotate_left;first|exact z9 sg)|(refine' z8 4 ?_ ?_;rotate_left;first|exact z9 sg)|(refine' z8 6 ?_ ?_;rotate_left;first|exact z9 sg)|refine z10 0 ?_|refine z10 1 ?_|refine z10 2 ?_|refine z10 5 ?_|refine z10 7 ?_|refine z11 0 1 ?_ ?_|refine z11 2 5 ?_ ?_|(refine za rfl rfl (Yq.lookM sg KP (Value.int .i64) es (zA9 (p3 (zT s) k)) 0 hz H.mem (zz5 _ (zz2 _)) rfl rfl rfl rfl rfl) ?_)|(refine za rfl rfl (lookS sg KP (Value.int .i64) (zGD es clock (zA9 (p3 (zT s) k)) (0:Int)) (zA9 (p3 (zT s) k)) 0 ((atM es (zA9 (p3 (zT s) k))).getD 0) hat0 hz H.mem (zz5 _ (zz2 _)) rfl rfl rfl rfl rfl) ?_)|(refine m4 sg KP (Value.int .i64) es (zA9 (p3 (zT s) k)) (0:Int) hz H (Up.there Up.here) rfl ?_;intro w H)|(refine m5 KP (Value.int .i64) (zGD es clock (zA9 (p3 (zT s) k)) (0:Int)) (IntKind.i64.wrap ((atM es (zA9 (p3 (zT s) k))).getD 0+(p3 (zT s) k).2.2)) hMI2.stamps hst H (Up.there Up.here) rfl ?_;intro w H)|fail);all_goals refine⟨[_,_],⟨addM es clock (zA9 (p3 (zT s) k)) 0 (IntKind.i64.wrap ((atM es (zA9 (p3 (zT s) k))).getD 0+(p3 (zT s) k).2.2)),_,rfl,zTr hMI _ _ _,fun x=>?_⟩,H.sub (zz7 _ _)⟩
 all_goals rw[zWW hMI,yyj hk,hat,hat]
 all_goals have hpk:(zT s)[k]=(p3 (zT s) k):=by unfold p3;simp[yy1 hk]
 all_goals rw[hpk,zTv]
.clear hP;rintro D lo M w ⟨es,clock,rfl,hMI,hat⟩ H;rw[List.take_length] at hat;simp only[zca,zcb] at H;refine zH6 (zH5 (CM.of ?_));have hz:∀ w:World,(zeroValue 2).run prog w=.ok (Value.int .i64 0) w:=fun w=>zeroValue2 w;(repeat' first|refine yX ?_|fail);refine zD [(2,2),(7,8),(24,41)] (fun x:Nat × List (ME (Int × Int) Int) × Nat=>[(24,.int .i64 (x.1:Int))]) (fun x w=>x.1<=s.rows.length/\St w0 (lo::(D,.deferred (some []))::(bm,mo KP (Value.int .i64) x.2.1 x.2.2)::cb b [.map (some bm)] _::cb _ _ _::[cb _ _ _]) w/\MI x.2.1 x.2.2/\(∀ y,atM x.2.1 y=if y∈zCU s.rows x.1 then none else atP (zT s) y)/\∀ i,i<x.1->zDz s i=true) (fun x=>s.rows.length - x.1) (0,es,clock) ⟨rfl,trivial⟩ ⟨zzD _,H,hMI,fun y=>by rw[hat];rfl,fun i hi=>absurd hi (zzE _)⟩ ?_;clear H hMI hat;rintro⟨j,es,clock⟩ gh w ⟨hj,H,hMI,hat,hok⟩;simp only at hj H hMI hat hok ⊢;(repeat' first|refine yX ?_|fail);refine zB rfl (fun h=>?_) (fun h=>?_)
 .have hlt:j<s.rows.length:=by have:=zzA h;omega
  clear h;have hgot:(atM es (zAD (rw_ s.rows j))).getD 0=if zAD (rw_ s.rows j)∈zCU s.rows j then 0 else zHd (zT s) (zAD (rw_ s.rows j)):=by
   rw[hat];split
   .rfl
   .exact zMn _ _
  (repeat' first|refine yX ?_|(refine yB ?_;intro b w H)|(refine y11 sg H ?_;intro w H)|refine x40 sg hs ?_|refine x42 sg hs (H.memF hF) ?_|(refine zAp rfl rfl (Yq.lookM sg KP (Value.int .i64) es (zAD (rw_ s.rows j)) 0 hz H.mem qC rfl rfl rfl rfl rfl) ?_)|(refine qN H ?_;clear H;intro w H)|refine y20 mixed ?_|fail);refine zB rfl (fun h=>?_) (fun h=>?_)
  ·(repeat' first|refine yX ?_|fail);refine zLd H (Up.there (Up.there (Up.there Up.here))) (fun w' H'=>⟨[_],⟨zP rfl,trivial⟩,congrArg (fun v=>Ending.returned (Value.bool v)) ?_,H'.cl⟩);have:zDz s j=false:=by unfold zDz;rw[<- hgot];simpa using h
   unfold zGZ;have h2:(List.range s.rows.length).all (zDz s)=false:=List.all_eq_false.2 ⟨j,List.mem_range.2 hlt,by rw[this];simp⟩;rw[h2];rfl
  .have hgood:zDz s j=true:=by unfold zDz;rw[<- hgot];simpa using h
   clear h;(repeat' first|refine yX ?_|(refine m6 sg KP (Value.int .i64) es (zAD (rw_ s.rows j)) H (Up.there (Up.there (Up.there (Up.there Up.here)))) rfl ?_;intro w H)|fail);refine zC (j+1,zLa es (zAD (rw_ s.rows j)),clock) rfl ⟨zU qO,trivial⟩ ⟨hlt,(H.sub (zz7 _ _)).sub (zz7 _ _),zTs hMI _,fun y=>?_,fun i hi=>?_⟩ (by simp only;omega)
   .simp only;rw[zWX hMI,hat];have hk:zCU s.rows (j+1)=zCU s.rows j++[zAD (rw_ s.rows j)]:=by unfold zCU rw_;rw[yyj hlt,List.map_append];simp[yy1 hlt]
    rw[hk];by_cases h1:y=zAD (rw_ s.rows j)
    .rw[if_pos h1,if_pos (by rw[h1];simp)]
    .rw[if_neg h1];by_cases h2:y∈zCU s.rows j
     .rw[if_pos h2,if_pos (List.mem_append_left _ h2)]
     .rw[if_neg h2,if_neg (by simp[h1,h2])]
   .rcases(show i<j\/i=j by have:i<j+1:=hi;omega) with g|rfl
    .exact hok i g
    .exact hgood
 .obtain rfl:j=s.rows.length:=by have:=zzB h;omega
  (repeat' first|refine yX ?_|(refine za rfl rfl (Yq.lenM sg KP (Value.int .i64) es H.mem qC rfl rfl rfl rfl) ?_)|fail);refine zLd H (Up.there Up.here) (fun w' H'=>⟨[_],⟨zP rfl,trivial⟩,congrArg (fun v=>Ending.returned (Value.bool v)) ?_,H'.cl⟩);unfold zGZ;have h2:(List.range s.rows.length).all (zDz s)=true:=List.all_eq_true.2 fun i hi=>hok i (List.mem_range.1 hi);rw[h2,Bool.true_and,Bool.eq_iff_iff,yye];constructor
  .intro hl y hy;have he:es=[]:=List.eq_nil_of_length_eq_zero (by have:=eqI hl;omega);rw[decide_eq_true_eq];have h3:=hat (zA9 y);rw[he,zP5] at h3;by_cases hm:zA9 y∈zCU s.rows s.rows.length
   .exact hm
   .rw[if_neg hm] at h3;unfold atP at h3;rw[show zJA (zT s) (zA9 y)=true from List.any_eq_true.2 ⟨y,hy,by simp⟩] at h3;cases h3
  .intro hall;cases es with
   | nil=>rfl
   | cons e t =>
     have h3:=hat e.1;rw[zBK,if_pos rfl] at h3;by_cases hm:e.1∈zCU s.rows s.rows.length
     .rw[if_pos hm] at h3;cases h3
     .rw[if_neg hm] at h3;unfold atP at h3;cases hh:zJA (zT s) e.1 with
      | false=>rw[hh] at h3;cases h3
      | true =>
        obtain⟨y,hy,hky⟩:=List.any_eq_true.1 hh;have:=zzA (hall y hy);rw[of_decide_eq_true hky] at this;exact absurd this hm}
end
section
open Go Go.Sk Go.RowKit Tryz
attribute [local irreducible] Go.Calls
attribute [local semireducible] OX OW
def byE (s:ByteArray)(j:Nat):List Value:=[.int .u8 (zHc s j)]
set_option maxRecDepth 20000 in
theorem OX.bytes {P:Program}(S:Sig P){n:Nw}{ops:Array Oper}{Q:Exit->Env->World->Prop}{o:Oper}{rest:List Oper}{L:List (Nat × Value)}{b0:Env}{w w0:World}{G:zA}{src dst E:TypeId}{d:Nat}{x:Operand}{s:ByteArray}{ti td te:TI}(H:St w0 G w)
  (ho:o.op=.convert src dst x) (hd:o.dst=some d) (hlt:Nat.blt d n.n=true) (hx:ev (ovl L b0) x=.string s) (ht:lk S.tab src=some ti) (htd:ti.d=.string) (hdt:lk S.tab dst=some td) (hdd:td.d=.slice E) (he:lk S.tab E=some te) (hed:te.d=.int .u8) (hsz:s.size<=140737488355328)
  (k:∀ b cap w' o',St w0 ((b,o')::G) w'->Cl w w'->SlA ((b,o')::G) 1 (some ⟨b,0,none⟩) s.size cap (byE s)->OW P n ops Q rest (ovl ((d,.slice (some ⟨b,0,none⟩) s.size cap)::L) b0) w') :
  OX P n ops Q o rest (ovl L b0) w:=by{
intro a ha;unfold Oper.wp;rw[ha.eval];have h1:=run_bytes_of_string (P:=P) w src dst E s (by rw[S.und ht,htd]) (by rw[S.und hdt,hdd]) (by rw[S.und he,hed]);simp only[execOp,ho,hx,Sem.run_bind,h1,Result.andThen_ok,Sem.run_pure,Oper.upon_value,hd];refine k _ _ _ _ (H.drewAlloc _) ?_ ?_ _ (ha.put hlt _)
.exact(Bel.refl _ _).drew.alloc (zzC _) _
.refine⟨grownCap_ge w s.size 0 E,hsz,_,0,(bytesRow s (grownCap w s.size 0 E)).toList,E,_,fun _=>⟨rfl,zz2 _,fun j hj=>?_⟩⟩;have hl:(bytesRow s (grownCap w s.size 0 E)).toList=(s.data.toList.map fun(b:UInt8)=>Value.int .u8 b.toNat)++List.replicate (grownCap w s.size 0 E - s.size) (Value.int .u8 0):=by simp[bytesRow]
 have hsd:s.size=s.data.toList.length:=rfl;rw[hl];have hlt:j<((s.data.toList.map fun(b:UInt8)=>Value.int .u8 b.toNat)++List.replicate (grownCap w s.size 0 E - s.size) (Value.int .u8 0)).length:=by simp only[yy4,yyp];omega
 refine⟨by omega,?_⟩;rw[yyv,Nat.mul_one,<- List.getElem_cons_drop hlt,List.take_succ_cons,List.take_zero,List.getElem_append_left (by rw[yyp];omega),List.getElem_map];unfold byE zHc;have h2:j<s.data.size:=hj;rw[Array.getD,dif_pos h2];rfl}
set_option maxRecDepth 20000 in
theorem zHe (s:ByteArray)(hsz:s.size<=140737488355328)(w0:World):Cr 68 [.string s] (.bool (zAE s)) w0:=by{
refine eS func68 ntmps68 fun H=>?_;(repeat' first|refine yX ?_|(refine OX.bytes sg H rfl rfl rfl rfl rfl rfl rfl rfl rfl rfl hsz ?_;intro b cap w o1 H _ hB)|fail);obtain⟨hcap,_,b2,off,cs,T,fr,hs⟩:=hB;refine zD [(2,2),(4,4),(8,34)] (fun k:Nat=>[(8,.int .i64 (k:Int))]) (fun k w=>k<=s.size/\zMi s k=true/\St w0 [(b,o1)] w) (fun k=>s.size - k) 0 ⟨rfl,trivial⟩ ⟨zzD _,rfl,H⟩ ?_;clear H;rintro k gh w ⟨hk,ho,H⟩;(repeat' first|refine yX ?_|fail);refine zB rfl (fun h=>?_) (fun h=>?_)
.have hlt:k<s.size:=by have:=zzA h;omega
 clear h;obtain⟨c,hc⟩:∃ c,zHc s k=c:=⟨_,rfl⟩;have hb:=zWJ c;have good:okB c=true->zMi s (k+1)=true:=fun h=>by rw[zRG,ho,hc,h];rfl
 have bad:okB c=false->zAE s=false:=fun h=>by rw[zAE,zTe (hc ▸ h) hlt,Bool.and_false]
 have nok:∀ {p:Prop},¬ ((97<=c/\c<=122)\/(48<=c/\c<=57)\/c=45\/c=95)->okB c=false:=fun h=>by
  cases hq:okB c with
  | false=>rfl
  | true=>exact absurd (hb.1 hq) h
 (repeat' first|refine yW ?_|(refine za rfl rfl (zJ sg hs) ?_)|(refine y46 sg (hs) (H.mem) ?_ ?_;(omega))|(refine y17 ?_ ?_;all_goals intro h)|(refine y23 ?_ ?_;all_goals intro h)|fail);all_goals try rw[hc] at *
 all_goals simp only[decide_eq_true_eq,yyy,ge_iff_le,Bool.not_eq_true',Bool.not_eq_false',beq_iff_eq,yyq,ne_eq,Bool.not_eq_true,Bool.not_eq_false,bne_iff_ne,bne_eq_false_iff_eq] at *
 all_goals first
  | exact zC (k+1) rfl ⟨zU qO,trivial⟩ ⟨hlt,good (hb.2 qO),H⟩ qO
  | exact zG rfl H.cl (congrArg Value.bool (bad (nok (p:=True) qO)).symm)
  | fail
.obtain rfl:k=s.size:=by have:=zzB h;omega
 (repeat' first|refine yW ?_|(refine y17 ?_ ?_;all_goals intro h)|fail);all_goals simp only[decide_eq_true_eq,yyy,ge_iff_le] at *
 all_goals exact zG rfl H.cl (congrArg Value.bool (by
  unfold zAE;rw[ho,Bool.and_true];by_cases q1:1<=s.size
  .by_cases q2:s.size<=24
   .simp[q1,q2]<;>omega
   .simp[q1,q2]<;>omega
  .simp[q1]<;>omega))}
end
section
open Go Go.Sk Go.RowKit Tryz
attribute [local irreducible] Go.Calls
theorem c_IdxS {n cap:Nat}{a:OA}(nm:Nat->ByteArray){f:FuncId}{caps:List Value}{F:zA}(p:Nat->Bool)(w0:World)(hF:Mem w0 F)(hs:SlA F 1 a n cap fun j=>[.string (nm j)])(hf:Ent prog f)
  (hp:∀ j,j<n->∀ w,Cl w0 w->Cr f ([Value.string (nm j)]++caps) (.bool (p j)) w) :
  Cr 265 [.slice a n cap,.func (.func f) #[] caps.toArray] (.int .i64 (idx p n)) w0:=by{
obtain⟨hn,hc,b,off,cs,T,fr,hs⟩:=hs;refine eS func265 ntmps265 fun H=>?_;(repeat' first|refine yX ?_|fail);refine zD [(4,5),(8,18)] (fun k:Nat=>[(8,.int .i64 (k:Int))]) (fun k w=>k<=n/\(∀ j,j<k->p j=false)/\St w0 [] w) (fun k=>n - k) 0 ⟨rfl,trivial⟩ ⟨zzD _,fun j hj=>by omega,H⟩ ?_;clear H;rintro k g w ⟨hk,hpk,H⟩;(repeat' first|refine yX ?_|fail);refine zB rfl (fun h=>?_) (fun h=>?_)
.have hlt:k<n:=by simpa using h
 (repeat' first|refine yX ?_|(refine za rfl rfl (zJ sg hs) ?_)|(refine y46 sg (hs) ((H.memF hF)) ?_ ?_;(omega))|(refine OX.call rfl rfl (zAq hf rfl rfl rfl) (hp k hlt _ H.cl) ?_;refine wQ H ?_;clear H;intro w H)|fail);refine zB rfl (fun h2=>?_) (fun h2=>?_)
 ·(repeat' first|refine yX ?_|fail);exact zG rfl H.cl (by rw[zBv hlt hpk h2])
 ·(repeat' first|refine yX ?_|fail);refine zC (k+1) rfl ⟨zU qO,trivial⟩ ⟨hlt,fun j hj=>?_,H⟩ qO;by_cases hj':j=k
  .rw[hj',h2]
  .exact hpk j qO
·(repeat' first|refine yX ?_|fail);have hkn:k=n:=by simp at h;omega
 exact zG rfl H.cl (by rw[zA8 (hkn ▸ hpk)])}
theorem zWa {n cap:Nat}{a:OA}(nm:Nat->ByteArray){f:FuncId}{caps:List Value}{F:zA}(p:Nat->Bool)(w0:World)(hF:Mem w0 F)(hs:SlA F 1 a n cap fun j=>[.string (nm j)])(hf:Ent prog f)
  (hp:∀ j,j<n->∀ w,Cl w0 w->Cr f ([Value.string (nm j)]++caps) (.bool (p j)) w) :
  Cr 232 [.slice a n cap,.func (.func f) #[] caps.toArray] (.bool (decide (idx p n >= 0))) w0:=by refine eS func232 ntmps232 fun H=>?_;(repeat' first|refine yW ?_|(refine c0 ent265 ?_;refine⟨_,c_IdxS nm p _ (H.memF hF) hs hf (fun j hj w' hw'=>hp j hj w' (H.cl.trans hw')),?_⟩;clear H;intro w H)|fail);all_goals exact zG rfl H.cl rfl
theorem zGw {n cap:Nat}{a:OA}(nm:Nat->ByteArray){F:zA}(w0:World)(hF:Mem w0 F)(hs:SlA F 1 a n cap fun j=>[.string (nm j)])(hn:n*16<=140737488355328) :
  Cf 104 [.slice a n cap] (fun M v=>∃ a' cap',v=.slice a' n cap'/\Go.Sk.Own M 9 1 a' n cap' ((List.range n).flatMap fun j=>[.string (nm j)])) w0:=by{
obtain⟨hnc,hcb,b,off,cs,T,fr,hs⟩:=hs;refine eS func104 ntmps104 fun H=>?_;(repeat' first|refine yX ?_|(refine za rfl rfl (Yq.nilS sg rfl rfl rfl rfl) ?_)|fail);refine zB rfl (fun h=>?_) (fun h=>?_)
.have hn0:n=0:=by
  rcases yyn n with h0|h0
  .exact h0
  .rw[(hs h0).1] at h;cases h
 subst hn0;(repeat' first|refine yX ?_|fail);exact zL rfl H ⟨_,_,rfl,zWD _ _ _⟩
.have hlen:∀ m,((List.range m).flatMap fun j=>[Value.string (nm j)]).length=m*1:=by
  intro m;induction m with
  | zero=>rfl
  | succ m ih=>rw[yys,yy9,yy4,ih,yya];rfl
 have hsrc:∀ w,Mem w F->Src w (.slice a n cap) n ((List.range n).flatMap fun j=>[Value.string (nm j)]):=by
  intro w hM;rcases yyn n with h0|h0
  .subst h0;cases a with
   | none=>cases h
   | some a=>exact .inl ⟨a,cap,rfl,fun j u hj=>by cases hj⟩
  .obtain⟨rfl,hm,hx⟩:=hs h0;refine .inl ⟨_,_,rfl,fun j u hj=>?_⟩;rw[zAA,zB9 hM hm];have hjn:j<n:=by have:=(List.getElem?_eq_some_iff.1 hj).1;rw[hlen] at this;omega
   have hj2:((List.range n).flatMap fun j=>[Value.string (nm j)])=(List.range n).map fun j=>Value.string (nm j):=by
    rw[List.flatMap_def];induction (List.range n) with
    | nil=>rfl
    | cons x t ih=>simp only[List.map_cons,List.flatten_cons,ih,List.singleton_append]
   rw[hj2,List.getElem?_map,List.getElem?_range hjn] at hj;have h3:=(hx j hjn).2;have h4:((cs.drop (off+j*1)).take 1)[0]?=some (Value.string (nm j)):=by rw[h3];rfl
   rw[List.getElem?_take_of_lt qO,yyr] at h4;rw[show off+j=off+j*1+0 by omega,h4,<- hj];rfl
 have hone:∀ u∈((List.range n).flatMap fun j=>[Value.string (nm j)]),u.oneCell'=true:=by intro u hu;obtain⟨j,hj,hu⟩:=List.mem_flatMap.1 hu;rw[yyd] at hu;subst hu;rfl
 (repeat' first|refine yX ?_|(refine zCG sg H rfl rfl rfl rfl rfl rfl ?_;intro b w H _)|(refine zY sg 1 16 (M:=[]) (G:=[]) H rfl rfl rfl rfl rfl rfl rfl rfl rfl rfl rfl (zWD _ _ _) (hsrc _ (H.memF hF)) (hlen n) hone (by unfold maxLen;omega) qO ?_;intro a' cap' M w hO H;simp only[yyv,List.nil_append] at hO;rw[List.append_nil] at H;rw[yyv])|fail);exact zL rfl H ⟨_,_,rfl,hO⟩}
theorem zTw (s:ByteArray)(hsz:s.size<=140737488355328)(w0:World):Cr 233 [.string s] (.bool (!zAE s)) w0:=by refine eS func233 ntmps233 fun H=>?_;(repeat' first|refine yW ?_|(refine c0 zS5 ?_;refine⟨_,zHe s hsz _,?_⟩;clear H;intro w H)|fail);all_goals exact zG rfl H.cl rfl
def zB3 (n lo hi:Int):Bool:=decide (lo<=n)&&decide (n<=hi)
theorem zEd (n lo hi:Int):zB3 n lo hi=true↔(lo<=n/\n<=hi):=by simp[zB3]
theorem zIa (n lo hi:Int)(w:World):Cr 176 [.int .i64 n,.int .i64 lo,.int .i64 hi] (.bool (zB3 n lo hi)) w:=by
 refine eS func176 ntmps176 fun H=>?_;(repeat' first|refine yW ?_|(refine y17 ?_ ?_;all_goals intro h)|fail);all_goals simp only[decide_eq_true_eq,yyy,ge_iff_le] at *
 all_goals exact zG rfl H.cl (congrArg Value.bool (by unfold zB3;simp only[*,decide_true,decide_false,Bool.true_and,Bool.and_true,Bool.false_and,Bool.and_false]))
def zFV (l:List Ac)(s:ByteArray)(j:Nat):Bool:=(ac_ l j).name.toList==s.toList
def zBE (l:List Ac)(s:ByteArray):Int:=idx (zFV l s) l.length
def zTx (l:List Ac)(k:Nat):Bool:=zAE (ac_ l k).name&&(zBE l (ac_ l k).name==(k:Int))
def zFW (l:List Ac):Bool:=decide (l.length<=64)&&(List.range l.length).all fun k=>zTx l k
theorem zOh {l:List Ac}:zFW l=true↔l.length<=64/\∀ k,k<l.length->zAE (ac_ l k).name=true/\zBE l (ac_ l k).name=k:=by unfold zFW zTx;rw[yy3,decide_eq_true_eq,yye];simp only[yy8,yy3,beq_iff_eq]
theorem zKY (l:List Ac)(s:ByteArray):-1<=zBE l s/\zBE l s<l.length:=by rcases zX (zFV l s) l.length with ⟨k,h1,_,_,h2⟩|⟨_,h2⟩<;>(unfold zBE;rw[h2];omega)
def zLe (l:List Ins)(k:Nat)(n:Nat):Bool:=(List.range n).all fun j=>!((in_ l j).name.toList==(in_ l k).name.toList)
def zTy (l:List Ins)(k:Nat):Bool:=zAE (in_ l k).name&&zB3 (in_ l k).tick 1 1073741824&&zLe l k k
def zDK (l:List Ins):Bool:=decide (l.length<=16)&&(List.range l.length).all fun k=>zTy l k
theorem zMo {l:List Ins}{k n:Nat}:zLe l k n=true↔∀ j,j<n->((in_ l j).name.toList==(in_ l k).name.toList)=false:=by unfold zLe;rw[yye];simp only[yy8,Bool.not_eq_true']
theorem zJB {l:List Ins}:zDK l=true↔l.length<=16/\∀ k,k<l.length->zAE (in_ l k).name=true/\(1<=(in_ l k).tick/\(in_ l k).tick<=1073741824)/\∀ j,j<k->((in_ l j).name.toList==(in_ l k).name.toList)=false:=by unfold zDK zTy;rw[yy3,decide_eq_true_eq,yye];simp only[yy8,yy3,zEd,zMo,and_assoc]
def zEe (s:Sta)(k:Nat):Bool:=(decide ((rw_ s.rows k).acct<=0)||(zBQ s.accts (rw_ s.rows k).acct).2)&&decide ((rw_ s.rows k).asset<=s.insts.length)
def zDL (s:Sta):Bool:=zAZ s.rows&&(List.range s.rows.length).all fun k=>zEe s k
theorem zEf {s:Sta}:zDL s=true↔zAZ s.rows=true/\∀ k,k<s.rows.length->zEe s k=true:=by unfold zDL;rw[yy3,yye];simp only[yy8]
theorem zIC {s:Sta}{k:Nat}:zEe s k=true↔((rw_ s.rows k).acct<=0\/(zBQ s.accts (rw_ s.rows k).acct).2=true)/\(rw_ s.rows k).asset<=s.insts.length:=by unfold zEe;rw[yy3,Bool.or_eq_true,decide_eq_true_eq,decide_eq_true_eq]
end
end Go.Proofs.YtejhijhnlogikaaGreatDoor
namespace Go.Sk
open Go Go.Proofs Go.RowKit
open Go.Sort (grow putRow Holds mapBlock putCells onCells)
variable {α:Type}[Inhabited α]
def zFC (enc:α->Value)(d:Array α)(cs:List Value):List Value:=d.toList.map enc++cs.drop d.size
theorem zLf (enc:α->Value)(d:Array α)(cs:List Value)(h:d.size<=cs.length):putCells enc 0 d cs.toArray=(zFC enc d cs).toArray:=by{
apply Array.ext_getElem?;intro k;simp only[putCells,Array.getElem?_mapIdx,List.getElem?_toArray,zFC];by_cases hk:k<d.size
.have hc:k<cs.length:=by omega
 rw[yyl (by simpa using hk),yy1 hc,Option.map_some,if_pos ⟨by omega,by omega⟩,List.getElem?_map,Array.getElem?_toList,Nat.sub_zero,
  Array.getElem?_eq_getElem hk,Option.map_some,getElem!_pos d k hk]
.rw[yym (by simpa using Nat.le_of_not_lt hk),yyr];simp only[yyp,Array.length_toList];rw[show d.size+(k - d.size)=k by omega];cases cs[k]? with
 | none=>rfl
 | some y=>rw[Option.map_some,if_neg (by omega)]}
theorem St.put {enc:α->Value}{w0 w:World}{G G':zA}{b:Nat}{cs:List Value}{T:TypeId}{fr:Nat × Nat}{d:Array α}(n:Nat)(os:Array Obj)(H:St w0 G w)
  (hu:Up b (.cells cs.toArray T fr) (.cells (zFC enc d cs).toArray T fr) G G') (hl:d.size<=cs.length):St w0 G' (grow (putRow enc (Go.Sort.ahead w n) b 0 d) os):=by{
have hb:w.heap[b]?=some (.cells cs.toArray T fr):=H.mem _ hu.mem;have h1:St w0 G' (putRow enc (Go.Sort.ahead w n) b 0 d):=by
 refine St.up H hu rfl rfl rfl (by simp[putRow,mapBlock,Go.Sort.ahead]) ?_ fun k hk=>?_
 .show(w.heap.modify b (onCells (putCells enc 0 d)))[b]?=_;rw[Array.getElem?_modify,if_pos rfl,hb];simp only[Option.map_some,onCells,zLf enc d cs hl]
 .show(w.heap.modify b (onCells (putCells enc 0 d)))[k]?=_;rw[Array.getElem?_modify,if_neg (Ne.symm hk)]
refine St.ext h1 ⟨⟨rfl,rfl,rfl,by simp,fun k hk=>?_⟩,zzC _⟩;show((putRow enc (Go.Sort.ahead w n) b 0 d).heap++os)[k]?=_;rw[Array.getElem?_append_left hk]}
theorem zJC {enc:α->Value}{w0 w:World}{G:zA}{b:Nat}{cs:List Value}{T:TypeId}{d:Array α}(H:St w0 G w)(hm:cb b cs T∈G)(he:cs.take d.size=d.toList.map enc):Holds enc w b 0 d:=by{
intro j hj;have hb:w.heap[b]?=some (.cells cs.toArray T (0,0)):=H.mem _ hm;refine⟨?_,?_⟩
.rw[yyv,cell_of_row w b j _ T (0,0) hb,List.getElem?_toArray];have:(cs.take d.size)[j]?=cs[j]?:=List.getElem?_take_of_lt hj;rw[<- this,he,List.getElem?_map,Array.getElem?_toList,Array.getElem?_eq_getElem hj,Option.map_some,getElem!_pos d j hj]
.simp only[World.frozen?,hb];simp}
section
variable {β:Type}[Inhabited β][DecidableEq β]
open Go.Lib (compactUpTo)
theorem zMp (s:List β)(r:β->β->Prop)(hr:∀ x y,r x y->r y x->x=y)(hs:s.Pairwise r):(compactUpTo s.toArray s.length).length=s.length↔s.Nodup:=by{
have hg:∀ j,j<s.length->s.toArray[j]! = s[j]! := fun j hj=>by simp
have e0:(compactUpTo s.toArray s.length).length=((List.range s.length).filter (Lib.keeps s.toArray)).length:=by unfold compactUpTo;rw[yyp]
have e1:(compactUpTo s.toArray s.length).length=s.length↔∀ j,j<s.length->Lib.keeps s.toArray j=true:=by
 rw[e0];constructor
 .intro h j hj;have h2:((List.range s.length).filter (Lib.keeps s.toArray)).length=(List.range s.length).length:=by{rw[h,List.length_range]};exact(List.length_filter_eq_length_iff.1 h2) j (List.mem_range.2 hj)
 .intro h;rw[List.filter_eq_self.2 fun j hj=>h j (List.mem_range.1 hj),List.length_range]
rw[e1];have hk:∀ j,j<s.length->(Lib.keeps s.toArray j=true↔(j=0\/s[j]! ≠ s[j - 1]!)):=fun j hj=>by unfold Lib.keeps;rw[decide_eq_true_eq,hg j hj,hg (j - 1) (by omega)]
constructor
.intro h;rw[List.nodup_iff_pairwise_ne,List.pairwise_iff_getElem];intro i j hi hj hij he;have hne:s[j]! ≠ s[j - 1]! := ((hk j hj).1 (h j hj)).resolve_left (by omega);rw[getElem!_pos s j hj,getElem!_pos s (j - 1) (by omega)] at hne;have hp:=List.pairwise_iff_getElem.1 hs;rcases Nat.lt_or_ge i (j - 1) with g|g
 .exact hne (hr _ _ (he ▸ hp i (j - 1) hi (by omega) g) (hp (j - 1) j (by omega) hj (by omega)))
 .have:i=j - 1:=by{omega};subst this
  exact hne he.symm
.intro h j hj;refine(hk j hj).2 ?_;rcases yyn j with g|g
 .exact .inl g
 .refine .inr fun he=>?_;rw[getElem!_pos s j hj,getElem!_pos s (j - 1) (by omega)] at he;have:=(List.nodup_iff_pairwise_ne.1 h);exact(List.pairwise_iff_getElem.1 this (j - 1) j (by omega) hj (by omega)) he.symm}
end
theorem zMq (l:List (List UInt8)):(Go.Lib.compactUpTo (l.mergeSort fun x y=>decide (x<=y)).toArray l.length).length=l.length↔l.Nodup:=by{
have hp:=List.mergeSort_perm l fun x y=>decide (x<=y)
have h:=zMp (l.mergeSort fun x y=>decide (x<=y)) (fun x y=>decide (x<=y)=true) (fun x y h1 h2=>List.le_antisymm (zzA h1) (zzA h2))
 (List.pairwise_mergeSort (fun a b c h1 h2=>by simp only[decide_eq_true_eq] at *;exact List.le_trans h1 h2) (fun a b=>by simp only[Bool.or_eq_true,decide_eq_true_eq];exact List.le_total a b) l)
rw[hp.length_eq] at h;exact h.trans hp.nodup_iff}
end Go.Sk
set_option maxRecDepth 100000
namespace Go.Proofs.YtejhijhnlogikaaGreatDoor
open Go Go.Proofs Go.Shelf Tryz
def zTz:Go.Shelf.Ren:=⟨fun|6=>234|8=>138|9=>266|19=>200|20=>201|21=>274|22=>275|23=>276|24=>277|25=>278|26=>279|27=>280|28=>281|29=>282|36=>286|31=>244|32=>245|37=>287|38=>288|39=>289|41=>298|n=>n,fun|27=>59|29=>9|3=>3|32=>195|26=>59|0=>0|44=>240|46=>202|4=>4|36=>234|35=>233|41=>207|5=>5|9=>9|53=>285|57=>289|63=>310|64=>311|n=>n,fun|n=>n⟩
theorem layS:Go.Proofs.SlLaysM.n6 prog zTz:={
 mixed:=(by kernel_rfl),
 f6:=⟨f234.name,by decide,func234.trans (congrArg some (by kernel_rfl))⟩,
 f8:=func138.trans (congrArg some (by kernel_rfl)),
 f9:=⟨f266.name,by decide,func266.trans (congrArg some (by kernel_rfl))⟩,
 f19:=func200.trans (congrArg some (by kernel_rfl)),
 f20:=func201.trans (congrArg some (by kernel_rfl)),
 f21:=⟨f274.name,by decide,func274.trans (congrArg some (by kernel_rfl))⟩,
 f22:=⟨f275.name,by decide,func275.trans (congrArg some (by kernel_rfl))⟩,
 f23:=⟨f276.name,by decide,func276.trans (congrArg some (by kernel_rfl))⟩,
 f24:=⟨f277.name,by decide,func277.trans (congrArg some (by kernel_rfl))⟩,
 f25:=⟨f278.name,by decide,func278.trans (congrArg some (by kernel_rfl))⟩,
 f26:=⟨f279.name,by decide,func279.trans (congrArg some (by kernel_rfl))⟩,
 f27:=⟨f280.name,by decide,func280.trans (congrArg some (by kernel_rfl))⟩,
 f28:=⟨f281.name,by decide,func281.trans (congrArg some (by kernel_rfl))⟩,
 f29:=⟨f282.name,by decide,func282.trans (congrArg some (by kernel_rfl))⟩,
 f31:=func244.trans (congrArg some (by kernel_rfl)),
 f32:=func245.trans (congrArg some (by kernel_rfl)),
 f36:=⟨f286.name,by decide,func286.trans (congrArg some (by kernel_rfl))⟩,
 f37:=⟨f287.name,by decide,func287.trans (congrArg some (by kernel_rfl))⟩,
 f38:=⟨f288.name,by decide,func288.trans (congrArg some (by kernel_rfl))⟩,
 f39:=⟨f289.name,by decide,func289.trans (congrArg some (by kernel_rfl))⟩,
 f41:=⟨f298.name,by decide,func298.trans (congrArg some (by kernel_rfl))⟩,
 t0:=underlying0,
 a0:=isAgg0,
 z0:=sizeOf0,
 v0:=zeroValue0,
 t3:=underlying3,
 a3:=isAgg3,
 z3:=sizeOf3,
 v3:=zeroValue3,
 t4:=underlying4,
 a4:=isAgg4,
 z4:=sizeOf4,
 v4:=zeroValue4,
 t5:=underlying5,
 a5:=isAgg5,
 z5:=sizeOf5,
 v5:=zeroValue5,
 t9:=underlying9,
 a9:=isAgg9,
 z9:=sizeOf9,
 v9:=zeroValue9,
 t26:=underlying59,
 a26:=isAgg59,
 z26:=sizeOf59,
 v26:=zeroValue59,
 t27:=underlying59,
 a27:=isAgg59,
 z27:=sizeOf59,
 v27:=zeroValue59,
 t29:=underlying9,
 a29:=isAgg9,
 z29:=sizeOf9,
 v29:=zeroValue9,
 t32:=underlying195,
 a32:=isAgg195,
 z32:=sizeOf195,
 v32:=zeroValue195,
 t35:=underlying233,
 a35:=isAgg233,
 z35:=sizeOf233,
 v35:=zeroValue233,
 t36:=underlying234,
 a36:=isAgg234,
 z36:=sizeOf234,
 v36:=zeroValue234,
 t41:=underlying207,
 a41:=isAgg207,
 z41:=sizeOf207,
 v41:=zeroValue207,
 t44:=underlying240,
 a44:=isAgg240,
 z44:=sizeOf240,
 v44:=zeroValue240,
 t46:=underlying202,
 a46:=isAgg202,
 z46:=sizeOf202,
 v46:=zeroValue202,
 t53:=underlying285,
 a53:=isAgg285,
 z53:=sizeOf285,
 v53:=zeroValue285,
 t57:=underlying289,
 a57:=isAgg289,
 z57:=sizeOf289,
 v57:=zeroValue289,
 t63:=underlying310,
 a63:=isAgg310,
 z63:=sizeOf310,
 v63:=zeroValue310,
 t64:=underlying311,
 a64:=isAgg311,
 z64:=sizeOf311,
 v64:=zeroValue311 }
def zRS:Go.Shelf.Ren:=⟨fun|43=>235|n=>n,fun|22=>59|23=>9|3=>3|4=>4|0=>0|n=>n,fun|n=>n⟩
theorem layCS:Go.Proofs.SlLaysE.n43 prog zRS:={
 mixed:=(by kernel_rfl),
 f43:=⟨f235.name,by decide,func235.trans (congrArg some (by kernel_rfl))⟩,
 t0:=underlying0,
 a0:=isAgg0,
 z0:=sizeOf0,
 v0:=zeroValue0,
 t3:=underlying3,
 a3:=isAgg3,
 z3:=sizeOf3,
 v3:=zeroValue3,
 t4:=underlying4,
 a4:=isAgg4,
 z4:=sizeOf4,
 v4:=zeroValue4,
 t22:=underlying59,
 a22:=isAgg59,
 z22:=sizeOf59,
 v22:=zeroValue59,
 a23:=isAgg9,
 z23:=sizeOf9 }
def zRT:Go.Shelf.Ren:=⟨fun|6=>271|15=>138|14=>285|28=>200|29=>201|20=>290|21=>291|22=>292|23=>293|24=>294|25=>295|26=>296|27=>297|46=>299|47=>244|48=>245|49=>300|50=>301|57=>302|n=>n,fun|22=>317|24=>281|25=>319|3=>3|39=>195|0=>0|53=>240|55=>202|4=>4|46=>234|45=>233|50=>207|5=>5|9=>9|66=>285|70=>289|76=>310|77=>311|n=>n,fun|n=>n⟩
theorem layFE:Go.Proofs.SlLaysF0.n6 prog zRT:={
 mixed:=(by kernel_rfl),
 f6:=⟨f271.name,by decide,func271.trans (congrArg some (by kernel_rfl))⟩,
 f14:=⟨f285.name,by decide,func285.trans (congrArg some (by kernel_rfl))⟩,
 f15:=func138.trans (congrArg some (by kernel_rfl)),
 f20:=⟨f290.name,by decide,func290.trans (congrArg some (by kernel_rfl))⟩,
 f21:=⟨f291.name,by decide,func291.trans (congrArg some (by kernel_rfl))⟩,
 f22:=⟨f292.name,by decide,func292.trans (congrArg some (by kernel_rfl))⟩,
 f23:=⟨f293.name,by decide,func293.trans (congrArg some (by kernel_rfl))⟩,
 f24:=⟨f294.name,by decide,func294.trans (congrArg some (by kernel_rfl))⟩,
 f25:=⟨f295.name,by decide,func295.trans (congrArg some (by kernel_rfl))⟩,
 f26:=⟨f296.name,by decide,func296.trans (congrArg some (by kernel_rfl))⟩,
 f27:=⟨f297.name,by decide,func297.trans (congrArg some (by kernel_rfl))⟩,
 f28:=func200.trans (congrArg some (by kernel_rfl)),
 f29:=func201.trans (congrArg some (by kernel_rfl)),
 f46:=⟨f299.name,by decide,func299.trans (congrArg some (by kernel_rfl))⟩,
 f47:=func244.trans (congrArg some (by kernel_rfl)),
 f48:=func245.trans (congrArg some (by kernel_rfl)),
 f49:=⟨f300.name,by decide,func300.trans (congrArg some (by kernel_rfl))⟩,
 f50:=⟨f301.name,by decide,func301.trans (congrArg some (by kernel_rfl))⟩,
 f57:=⟨f302.name,by decide,func302.trans (congrArg some (by kernel_rfl))⟩,
 t0:=underlying0,
 a0:=isAgg0,
 z0:=sizeOf0,
 v0:=zeroValue0,
 t3:=underlying3,
 a3:=isAgg3,
 z3:=sizeOf3,
 v3:=zeroValue3,
 t4:=underlying4,
 a4:=isAgg4,
 z4:=sizeOf4,
 v4:=zeroValue4,
 t5:=underlying5,
 a5:=isAgg5,
 z5:=sizeOf5,
 v5:=zeroValue5,
 t9:=underlying9,
 a9:=isAgg9,
 z9:=sizeOf9,
 v9:=zeroValue9,
 t22:=underlying317,
 a22:=isAgg317,
 z22:=sizeOf317,
 v22:=zeroValue317,
 t25:=underlying319,
 a25:=isAgg319,
 z25:=sizeOf319,
 v25:=zeroValue319,
 t39:=underlying195,
 a39:=isAgg195,
 z39:=sizeOf195,
 v39:=zeroValue195,
 t45:=underlying233,
 a45:=isAgg233,
 z45:=sizeOf233,
 v45:=zeroValue233,
 t46:=underlying234,
 a46:=isAgg234,
 z46:=sizeOf234,
 v46:=zeroValue234,
 t50:=underlying207,
 a50:=isAgg207,
 z50:=sizeOf207,
 v50:=zeroValue207,
 t53:=underlying240,
 a53:=isAgg240,
 z53:=sizeOf240,
 v53:=zeroValue240,
 t55:=underlying202,
 a55:=isAgg202,
 z55:=sizeOf202,
 v55:=zeroValue202,
 t66:=underlying285,
 a66:=isAgg285,
 z66:=sizeOf285,
 v66:=zeroValue285,
 t70:=underlying289,
 a70:=isAgg289,
 z70:=sizeOf289,
 v70:=zeroValue289,
 t76:=underlying310,
 a76:=isAgg310,
 z76:=sizeOf310,
 v76:=zeroValue310,
 t77:=underlying311,
 a77:=isAgg311,
 z77:=sizeOf311,
 v77:=zeroValue311 }
def zRU:Go.Shelf.Ren:=⟨fun|6=>94|15=>138|14=>137|28=>200|29=>201|20=>192|21=>193|22=>194|23=>195|24=>196|25=>197|26=>198|27=>199|46=>243|47=>244|48=>245|49=>246|50=>247|57=>268|n=>n,fun|22=>37|24=>45|25=>147|3=>3|39=>195|0=>0|53=>240|55=>202|4=>4|46=>234|45=>233|50=>207|5=>5|9=>9|66=>285|70=>289|76=>310|77=>311|n=>n,fun|n=>n⟩
theorem layFO:Go.Proofs.SlLaysF0.n6 prog zRU:={
 mixed:=(by kernel_rfl),
 f6:=⟨f94.name,by decide,func94.trans (congrArg some (by kernel_rfl))⟩,
 f14:=⟨f137.name,by decide,func137.trans (congrArg some (by kernel_rfl))⟩,
 f15:=func138.trans (congrArg some (by kernel_rfl)),
 f20:=⟨f192.name,by decide,func192.trans (congrArg some (by kernel_rfl))⟩,
 f21:=⟨f193.name,by decide,func193.trans (congrArg some (by kernel_rfl))⟩,
 f22:=⟨f194.name,by decide,func194.trans (congrArg some (by kernel_rfl))⟩,
 f23:=⟨f195.name,by decide,func195.trans (congrArg some (by kernel_rfl))⟩,
 f24:=⟨f196.name,by decide,func196.trans (congrArg some (by kernel_rfl))⟩,
 f25:=⟨f197.name,by decide,func197.trans (congrArg some (by kernel_rfl))⟩,
 f26:=⟨f198.name,by decide,func198.trans (congrArg some (by kernel_rfl))⟩,
 f27:=⟨f199.name,by decide,func199.trans (congrArg some (by kernel_rfl))⟩,
 f28:=func200.trans (congrArg some (by kernel_rfl)),
 f29:=func201.trans (congrArg some (by kernel_rfl)),
 f46:=⟨f243.name,by decide,func243.trans (congrArg some (by kernel_rfl))⟩,
 f47:=func244.trans (congrArg some (by kernel_rfl)),
 f48:=func245.trans (congrArg some (by kernel_rfl)),
 f49:=⟨f246.name,by decide,func246.trans (congrArg some (by kernel_rfl))⟩,
 f50:=⟨f247.name,by decide,func247.trans (congrArg some (by kernel_rfl))⟩,
 f57:=⟨f268.name,by decide,func268.trans (congrArg some (by kernel_rfl))⟩,
 t0:=underlying0,
 a0:=isAgg0,
 z0:=sizeOf0,
 v0:=zeroValue0,
 t3:=underlying3,
 a3:=isAgg3,
 z3:=sizeOf3,
 v3:=zeroValue3,
 t4:=underlying4,
 a4:=isAgg4,
 z4:=sizeOf4,
 v4:=zeroValue4,
 t5:=underlying5,
 a5:=isAgg5,
 z5:=sizeOf5,
 v5:=zeroValue5,
 t9:=underlying9,
 a9:=isAgg9,
 z9:=sizeOf9,
 v9:=zeroValue9,
 t22:=underlying37,
 a22:=isAgg37,
 z22:=sizeOf37,
 v22:=zeroValue37,
 t25:=underlying147,
 a25:=isAgg147,
 z25:=sizeOf147,
 v25:=zeroValue147,
 t39:=underlying195,
 a39:=isAgg195,
 z39:=sizeOf195,
 v39:=zeroValue195,
 t45:=underlying233,
 a45:=isAgg233,
 z45:=sizeOf233,
 v45:=zeroValue233,
 t46:=underlying234,
 a46:=isAgg234,
 z46:=sizeOf234,
 v46:=zeroValue234,
 t50:=underlying207,
 a50:=isAgg207,
 z50:=sizeOf207,
 v50:=zeroValue207,
 t53:=underlying240,
 a53:=isAgg240,
 z53:=sizeOf240,
 v53:=zeroValue240,
 t55:=underlying202,
 a55:=isAgg202,
 z55:=sizeOf202,
 v55:=zeroValue202,
 t66:=underlying285,
 a66:=isAgg285,
 z66:=sizeOf285,
 v66:=zeroValue285,
 t70:=underlying289,
 a70:=isAgg289,
 z70:=sizeOf289,
 v70:=zeroValue289,
 t76:=underlying310,
 a76:=isAgg310,
 z76:=sizeOf310,
 v76:=zeroValue310,
 t77:=underlying311,
 a77:=isAgg311,
 z77:=sizeOf311,
 v77:=zeroValue311 }
end Go.Proofs.YtejhijhnlogikaaGreatDoor
