/- Steps of the proof. -/
import Derived.Shelf.SortM.SortNone
import Derived.Test.YtejhijhnlogikaaGreatDoorMe07
set_option linter.all false
set_option maxHeartbeats 16000000
namespace Go.Proofs.YtejhijhnlogikaaGreatDoor
section
open Go Go.Sk Go.RowKit Tryz
open Go.Sort (grow putRow)
attribute [local irreducible] Go.Calls
theorem eqStrD (P:Program)(T:TypeId):EqlAt P T encStr (fun x y=>decide (x=y)) :=
 ⟨fun x y w=>by rw[(EqlAt.string P T).1 ⟨x.toArray⟩ ⟨y.toArray⟩ w];by_cases h:x=y<;>simp[ByteArray.toList_eq,h],fun op a b x y w=>(EqlAt.string P T).2 op a b ⟨x.toArray⟩ ⟨y.toArray⟩ w⟩
theorem neStrD (P:Program)(T:TypeId):NeqAt P T encStr (fun x y=>decide (x=y)) :=
 ⟨fun x y w=>by rw[(NeqAt.string P T).1 ⟨x.toArray⟩ ⟨y.toArray⟩ w];by_cases h:x=y<;>simp[ByteArray.toList_eq,h],fun op a b x y w=>(NeqAt.string P T).2 op a b ⟨x.toArray⟩ ⟨y.toArray⟩ w⟩
theorem zWb {w0 w:World}{M G:zA}{a:OA}{cap:Nat}(ss:List (List UInt8))(hn:ss.length<=140737488355328)(H:St w0 (M++G) w)(hO:Go.Sk.Own M 9 1 a ss.length cap (ss.map encStr)) :
  Calls prog 234 [.slice a ss.length cap].toArray w (zZ (fun N v=>v=.tuple #[]/\∃ M',N=M'++G/\Go.Sk.Own M' 9 1 a ss.length cap ((ss.mergeSort fun x y=>decide (x<=y)).map encStr)) w0):=by{
have hl2:(ss.mergeSort fun x y=>decide (x<=y)).length=ss.length:=(List.mergeSort_perm ss _).length_eq;rcases hO.2 with ⟨h1,h2,h3⟩|⟨g,cs,rfl,rfl,h4,h5,h6,h7⟩
.have hs0:ss=[]:=List.eq_nil_of_length_eq_zero h1;subst hs0;subst h3;subst h2;refine Calls.mono (AnyM.slices_Sort_string_none layS a 0 w) ?_;rintro e w' ⟨rfl,rfl⟩;exact⟨_,G,rfl,⟨rfl,[],rfl,by simpa using zWD _ _ _⟩,by simpa using H⟩
.have hm:cb g cs 9∈([cb g cs 9]++G):=zz2 _;have hz:ss.length*1=ss.length:=Nat.mul_one _;refine Calls.mono (AnyM.slices_Sort_string layS g 0 cap ss w (zJC H hm (by simpa using h7)) (zCF (H.mem _ hm)) qO) ?_;rintro e w' ⟨rfl,n,os,rfl⟩;have hd:(ss.mergeSort fun x y=>decide (x<=y)).toArray.size=ss.length:=by simp
 refine⟨_,[cb g (zFC encStr (ss.mergeSort fun x y=>decide (x<=y)).toArray cs) 9]++G,rfl,⟨rfl,_,rfl,?_⟩,St.put n os H Up.here (by rw[hd];omega)⟩;refine⟨by simp,.inr ⟨g,_,rfl,rfl,h4,h5,?_,?_⟩⟩
 .simp only[zFC,yy4,yyp,List.length_drop,List.toList_toArray,hd,hl2];omega
 .rw[zFC,List.toList_toArray,List.take_left' (by rw[yyp,hl2,hz])]}
theorem zWc {w0 w:World}{M G:zA}{a:OA}{cap:Nat}(ss:List (List UInt8))(hn:ss.length<=140737488355328)(H:St w0 (M++G) w)(hO:Go.Sk.Own M 9 1 a ss.length cap (ss.map encStr)) :
  Calls prog 235 [.slice a ss.length cap].toArray w (zZ (fun N v=>N=G/\∃ a' c',v=.slice a' (Lib.compactUpTo ss.toArray ss.length).length c') w0):=by{
rcases hO.2 with ⟨h1,h2,h3⟩|⟨g,cs,rfl,rfl,h4,h5,h6,h7⟩
.have hs0:ss=[]:=List.eq_nil_of_length_eq_zero h1;subst hs0;subst h3;subst h2;refine eN func235 ntmps235 ?_;(repeat' first|refine yW ?_|fail);exact zL rfl H ⟨rfl,a,0,rfl⟩
.have hm:cb g cs 9∈([cb g cs 9]++G):=zz2 _;refine Calls.mono (AnyE.slices_Compact layCS encStr (fun _=>rfl) (eqStrD _ _) (neStrD _ _) [] (fun w=>zeroValue9 w) g 0 cap ss.toArray w (zJC H hm (by simpa using h7)) (by simp;omega) (by simp;omega)) ?_;rintro e w' ⟨rfl,q,rfl⟩;refine⟨_,G,rfl,⟨rfl,_,cap,rfl⟩,?_⟩
 have:=St.put (enc:=encStr) (d:=(Lib.compactUpTo ss.toArray ss.toArray.size++List.replicate (ss.toArray.size - (Lib.compactUpTo ss.toArray ss.toArray.size).length) ([])).toArray) q #[] H Up.here (by
  have hle:(Lib.compactUpTo ss.toArray ss.length).length<=ss.length:=by unfold Lib.compactUpTo;rw[yyp];exact Nat.le_trans (List.length_filter_le _ _) (by simp)
  simp only[List.size_toArray,yy4,List.length_replicate];omega)
 rw[Go.Sort.grow_empty] at this;exact this.sub (zz7 _ _)}
def nmL (l:List ByteArray):List (List UInt8):=l.map fun s=>s.data.toList
def zBo (l:List ByteArray):Bool:=l.all zAE&&decide (nmL l).Nodup
theorem zHf {α:Type}(f:α->Value)(l:List α)(d:α):((List.range l.length).flatMap fun j=>[f (l.getD j d)])=l.map f:=by{
have:∀ k,k<=l.length->((List.range k).flatMap fun j=>[f (l.getD j d)])=(l.take k).map f:=by
 intro k;induction k with
 | zero=>intro _;rfl
 | succ k ih =>
   intro hk;rw[yys,yy9,ih qO,yya,yyj qO,List.map_append]
   congr 1
   simp[yy1 (show k<l.length by omega)]
rw[this _ (Nat.le_refl _),List.take_length]}
theorem zWd (l:List ByteArray):(nmL l).map encStr=l.map Value.string:=by simp[nmL]
theorem zP8 {w0 w:World}{M G:zA}{a:OA}{cap:Nat}(l:List ByteArray)(hn:l.length<=10000)(hz:∀ k,k<l.length->(l.getD k ByteArray.empty).size<=140737488355328)(H:St w0 (M++G) w)(hO:Go.Sk.Own M 9 1 a l.length cap (l.map Value.string)) :
  Calls prog 177 [.slice a l.length cap].toArray w (zZ (fun N v=>N=G/\v=.bool (zBo l)) w0):=by{
have hO1:=hO;rw[<- zHf Value.string l ByteArray.empty] at hO1;have hs:=Go.Sk.Own.sl hO1 (F:=M++G) (yyi _ _) (fun _ _=>rfl) qO;have hln:(nmL l).length=l.length:=by simp[nmL]
rw[<- hln,<- zWd] at hO;have hcmp:=zMq (nmL l);obtain⟨S,hS⟩:∃ S,((nmL l).mergeSort fun x y=>decide (x<=y))=S:=⟨_,rfl⟩;have hSl:S.length=(nmL l).length:=by rw[<- hS];exact(List.mergeSort_perm _ _).length_eq
rw[hS] at hcmp;refine eN func177 ntmps177 ?_;(repeat' first|refine yX ?_|(refine c0 ent232 ?_;refine⟨_,zWa (fun j=>l.getD j ByteArray.empty) (caps:=[]) (fun j=>!zAE (l.getD j ByteArray.empty)) _ H.mem hs ent233 (fun j hj w' _=>zTw _ (hz j hj) w'),?_⟩;clear H;intro w H)|fail);refine zB rfl (fun h=>?_) (fun h=>?_)
·(repeat' first|refine yX ?_|fail);refine zL rfl (H.tail) ⟨rfl,congrArg Value.bool ?_⟩;have h1:=zzA h;rcases zX (fun j=>!zAE (l.getD j ByteArray.empty)) l.length with ⟨k,hk,_,hp,_⟩|⟨_,h2⟩
 .unfold zBo;have:l.all zAE=false:=by rw[List.all_eq_false];refine⟨l.getD k ByteArray.empty,?_,by simpa using hp⟩;simp[yy1 hk]
  rw[this];rfl
 .omega
.have h1:=zzB h;have hall:l.all zAE=true:=by
  rcases zX (fun j=>!zAE (l.getD j ByteArray.empty)) l.length with ⟨k,hk,_,hp,h2⟩|⟨h2,_⟩
  .omega
  .rw[yye];intro x hx;obtain⟨k,hk,rfl⟩:=List.mem_iff_getElem.1 hx;have:=h2 k hk;simpa [yy1 hk] using this
 clear h;rw[<- hln];(repeat' first|refine yW ?_|(refine' y33 ent234 ?_ ?_;rotate_left 2;exact zWb (nmL l) qO H hO;rintro v N w ⟨rfl,M,rfl,hO⟩ H;rw[hS] at hO)|fail);have hs2:SlA (M++G) 1 a (nmL l).length cap fun j=>[Value.string ⟨(S.getD j []).toArray⟩]:=Go.Sk.Own.sl (E:=9) (M:=M) (by rw[<- hSl,zHf encStr S []];rw[hSl];exact hO) (yyi _ _) (fun _ _=>rfl) qO;(repeat' first|refine yW ?_|(refine f0 zLC ?_;refine⟨_,zGw (fun j=>⟨(S.getD j []).toArray⟩) _ H.mem hs2 qO,?_⟩;clear H;intro v Mc w hR H;(try simp only[zca,zcb] at H);obtain⟨a3,cap3,rfl,hO3⟩:=hR)|fail);rw[<- hSl] at hO3;rw[zHf encStr S []] at hO3;rw[<- hSl];(repeat' first|refine yW ?_|(refine' y33 ent235 ?_ ?_;rotate_left 2;exact zWc S qO (H.perm yyg) hO3;rintro v N w ⟨rfl,a4,c4,rfl⟩ H)|fail);rw[hSl];refine zL rfl (H.tail) ⟨rfl,congrArg Value.bool ?_⟩;unfold zBo;rw[hall,Bool.true_and];by_cases hd:(nmL l).Nodup
 .rw[hcmp.2 hd,yyb hd];simp
 .have:(Lib.compactUpTo S.toArray (nmL l).length).length≠(nmL l).length:=fun h=>hd (hcmp.1 h);rw[yyc hd];exact beq_eq_false_iff_ne.2 qO}
end
section
open Go Go.Sk Go.RowKit Tryz
attribute [local irreducible] Go.Calls
def nmA (l:List Ac):List ByteArray:=l.map (·.name)
def nmI (l:List Ins):List ByteArray:=l.map (·.name)
theorem zDl {α:Type}(f:α->List UInt8)(l:List α)(d:α):(l.map f).Nodup↔∀ k,k<l.length->∀ j,j<k->f (l.getD j d)≠f (l.getD k d):=by{
rw[List.nodup_iff_pairwise_ne,List.pairwise_iff_getElem];constructor
.intro h k hk j hj;have:=h j k (by simpa using (by omega:j<l.length)) (by simpa using hk) hj;simpa [yy1 hk,yy1 (show j<l.length by omega)] using this
.intro h i j hi hj hij;have hi':i<l.length:=by simpa using hi
 have hj':j<l.length:=by simpa using hj
 have:=h j hj' i hij;simpa [yy1 hi',yy1 hj'] using this}
theorem zBd {α:Type}{l:List α}{x d:α}(h:x∈l):∃ k,k<l.length/\l.getD k d=x:=by obtain⟨k,hk,rfl⟩:=List.mem_iff_getElem.1 h;exact⟨k,hk,by simp[yy1 hk]⟩
theorem zAP {α:Type}{l:List α}{k:Nat}(d:α)(h:k<l.length):l.getD k d∈l:=by simp[yy1 h]
theorem zGx (l:List Ac):zFW l=(decide (l.length<=64)&&zBo (nmA l)):=by{
rw[Bool.eq_iff_iff,zOh,yy3,decide_eq_true_eq];unfold zBo nmA nmL;rw[yy3,yye,decide_eq_true_eq,List.map_map];refine and_congr_right fun _=>?_;have hfi:∀ k,k<l.length->(zBE l (ac_ l k).name=k↔∀ j,j<k->(ac_ l j).name.data.toList≠(ac_ l k).name.data.toList):=by
 intro k hk;have hkk:zFV l (ac_ l k).name k=true:=by unfold zFV;exact beq_self_eq_true _
 constructor
 .intro h j hj he;rcases zX (zFV l (ac_ l k).name) l.length with ⟨m,hm,hn,_,h2⟩|⟨hn,_⟩
  .unfold zBE at h;have:m=k:=by{omega};subst this
   have:=hn j hj;unfold zFV at this;rw[ByteArray.toList_eq,ByteArray.toList_eq,he] at this;simp at this
  .rw[hn k hk] at hkk;cases hkk
 .intro h;unfold zBE;rw[zBv hk (fun j hj=>?_) hkk];unfold zFV;rw[ByteArray.toList_eq,ByteArray.toList_eq];exact beq_eq_false_iff_ne.2 (h j hj)
constructor
.intro h;refine⟨fun x hx=>?_,(zDl (fun x:Ac=>x.name.data.toList) l default).2 fun k hk=>(hfi k hk).1 (h k hk).2⟩;obtain⟨y,hy,rfl⟩:=List.mem_map.1 hx;obtain⟨k,hk,rfl⟩:=zBd (d:=default) hy;exact(h k hk).1
.rintro⟨h1,h2⟩ k hk;exact⟨h1 _ (List.mem_map.2 ⟨_,zAP default hk,rfl⟩),(hfi k hk).2 ((zDl (fun x:Ac=>x.name.data.toList) l default).1 h2 k hk)⟩}
theorem zEg (l:List Ins):zDK l=(decide (l.length<=16)&&((List.range l.length).all (fun k=>zB3 (in_ l k).tick 1 1073741824)&&zBo (nmI l))):=by{
rw[Bool.eq_iff_iff,zJB,yy3,decide_eq_true_eq];unfold zBo nmI nmL;rw[yy3,yy3,yye,yye,decide_eq_true_eq,List.map_map];simp only[yy8,zEd];refine and_congr_right fun _=>?_;have hne:∀ {j k},((in_ l j).name.toList==(in_ l k).name.toList)=false↔(in_ l j).name.data.toList≠(in_ l k).name.data.toList:=fun{j k}=>by rw[ByteArray.toList_eq,ByteArray.toList_eq,yyq]
constructor
.intro h;refine⟨fun k hk=>(h k hk).2.1,fun x hx=>?_,(zDl (fun x:Ins=>x.name.data.toList) l default).2 fun k hk j hj=>hne.1 ((h k hk).2.2 j hj)⟩;obtain⟨y,hy,rfl⟩:=List.mem_map.1 hx;obtain⟨k,hk,rfl⟩:=zBd (d:=default) hy;exact(h k hk).1
.rintro⟨h0,h1,h2⟩ k hk;exact⟨h1 _ (List.mem_map.2 ⟨_,zAP default hk,rfl⟩),h0 k hk,fun j hj=>hne.2 ((zDl (fun x:Ins=>x.name.data.toList) l default).1 h2 k hk j hj)⟩}
structure Gr where
 k:Nat
 a:OA
 cap:Nat
 M:zA
theorem zMr {α:Type}(f:α->Value)(l:List α)(d:α){k:Nat}(hk:k<l.length):(l.take k).map f++[f (l.getD k d)]=(l.take (k+1)).map f:=by rw[yyj hk,List.map_append];simp[yy1 hk]
theorem zOi {F:zA}(s:Sta)(p:SPt)(hb:s.accts.length<=10000)(hz:∀ k,k<s.accts.length->(ac_ s.accts k).name.size<=140737488355328)(w0:World)(hF:Mem w0 F)(hs0:StaM F s p) :
  Cr 121 [.agg (s.cells p).toArray] (.bool (zFW s.accts)) w0:=by{
obtain⟨hnc,hcb,b0,off,cs,T,fr,hs⟩:=hs0.ac;refine eS func121 ntmps121 fun H=>?_;(repeat' first|refine yX ?_|(refine yB ?_;intro b w H)|fail);refine zD [(3,3),(5,5),(9,18)] (fun x:Gr=>[(9,.int .i64 (x.k:Int)),(3,.slice x.a x.k x.cap)]) (fun x w=>x.k<=s.accts.length/\Go.Sk.Own x.M 9 1 x.a x.k x.cap ((s.accts.take x.k).map fun y=>Value.string y.name)/\St w0 (cb _ (s.cells p) 40::x.M) w) (fun x=>s.accts.length - x.k) ⟨0,none,0,[]⟩ ⟨rfl,rfl,trivial⟩ ⟨zzD _,zWD _ _ _,H⟩ ?_;clear H;rintro⟨k,ao,co,M⟩ gh w ⟨hk,hO,H⟩;simp only at hk hO H ⊢;(repeat' first|refine yX ?_|fail);refine zB rfl (fun h=>?_) (fun h=>?_)
.have hlt:k<s.accts.length:=by have:=zzA h;omega
 clear h;(repeat' first|refine yX ?_|(refine yB ?_;intro b w H)|(refine y11 sg H ?_;intro w H)|refine x40 sg hs ?_|refine x42 sg hs (H.memF hF) ?_|(have hp:=H.perm (yyg (l₁:=[_,_,_]) (l₂:=M));refine zY sg 1 16 (M:=M) hp rfl rfl rfl rfl rfl rfl rfl rfl rfl rfl rfl hO (zh hp.mem (zz3 _ (zz2 _))) rfl (zx rfl) (by unfold maxLen;omega) qO ?_;clear hp hO;intro ao co M w hO H;replace H:=H.perm (yyg (l₁:=M) (l₂:=[_,_,_])))|fail);exact zC ⟨k+1,ao,co,M⟩ rfl ⟨zU qO,rfl,trivial⟩ ⟨hlt,by show Go.Sk.Own M _ 1 ao (k+1) co _;rw[<- zMr (fun y:Ac=>Value.string y.name) s.accts default hlt];exact hO,(H.sub (zz7 _ _)).sub (zz7 _ _)⟩ (by show s.accts.length - (k+1)<s.accts.length - k;omega)
.obtain rfl:k=s.accts.length:=by have:=zzB h;omega
 have hln:(nmA s.accts).length=s.accts.length:=by simp[nmA]
 rw[List.take_length] at hO;have hO2:Go.Sk.Own M 9 1 ao (nmA s.accts).length co ((nmA s.accts).map Value.string):=by rw[hln];simpa [nmA,Function.comp_def] using hO
 have hnz:∀ k,k<(nmA s.accts).length->((nmA s.accts).getD k ByteArray.empty).size<=140737488355328:=fun k hk=>by rw[hln] at hk;have:=hz k hk;simpa [nmA,ac_,yy1 hk] using this
 have hcn:=fun{G:zA} {w:World}=>zP8 (w0:=w0) (w:=w) (G:=G) (M:=M) (a:=ao) (cap:=co) (nmA s.accts) qO hnz;rw[hln] at hcn hO2;(repeat' first|refine yW ?_|(refine' y33 zTG ?_ ?_;rotate_left 2;exact hcn (H.perm (yyg (l₁:=[_]) (l₂:=M))) hO2;rintro v N w ⟨rfl,rfl⟩ H)|(refine y17 ?_ ?_;all_goals intro h)|fail);all_goals refine zG rfl H.cl (congrArg Value.bool ?_)
 all_goals rw[zGx]
 all_goals simp only[decide_eq_true_eq,yyy] at h
 .rw[yyb qO];rfl
 .rw[yyc qO];rfl}
theorem zJ9 {F:zA}(s:Sta)(p:SPt)(hb:s.insts.length<=10000)(hz:∀ k,k<s.insts.length->(in_ s.insts k).name.size<=140737488355328)(w0:World)(hF:Mem w0 F)(hs0:StaM F s p) :
  Cr 122 [.agg (s.cells p).toArray] (.bool (zDK s.insts)) w0:=by{
obtain⟨hnc,hcb,b0,off,cs,T,fr,hs⟩:=hs0.ins;refine eS func122 ntmps122 fun H=>?_;(repeat' first|refine yX ?_|(refine yB ?_;intro b w H)|fail);refine zD [(2,3),(5,5),(9,22)] (fun x:Gr=>[(9,.int .i64 (x.k:Int)),(3,.slice x.a x.k x.cap)]) (fun x w=>x.k<=s.insts.length/\(∀ j,j<x.k->zB3 (in_ s.insts j).tick 1 1073741824=true)/\Go.Sk.Own x.M 9 1 x.a x.k x.cap ((s.insts.take x.k).map fun y=>Value.string y.name)/\St w0 (cb _ (s.cells p) 40::x.M) w) (fun x=>s.insts.length - x.k) ⟨0,none,0,[]⟩ ⟨rfl,rfl,trivial⟩ ⟨zzD _,fun j hj=>absurd hj (zzE _),zWD _ _ _,H⟩ ?_;clear H;rintro⟨k,ao,co,M⟩ gh w ⟨hk,hr,hO,H⟩;simp only at hk hr hO H ⊢;(repeat' first|refine yX ?_|fail);refine zB rfl (fun h=>?_) (fun h=>?_)
.have hlt:k<s.insts.length:=by have:=zzA h;omega
 clear h;(repeat' first|refine yX ?_|(refine yB ?_;intro b w H)|(refine y11 sg H ?_;intro w H)|refine x40 sg hs ?_|refine x42 sg hs (H.memF hF) ?_|(refine c0 zLI ?_;refine⟨_,zIa (in_ s.insts k).tick 1 1073741824 _,?_⟩;clear H;intro w H)|fail);refine zB rfl (fun h=>?_) (fun h=>?_)
 ·(repeat' first|refine yX ?_|fail);refine zG rfl H.cl (congrArg Value.bool ?_);rw[zEg];have:(List.range s.insts.length).all (fun k=>zB3 (in_ s.insts k).tick 1 1073741824)=false:=by rw[List.all_eq_false];exact⟨k,List.mem_range.2 hlt,by simpa using h⟩
  rw[this,Bool.false_and,Bool.and_false]
 .have hrk:zB3 (in_ s.insts k).tick 1 1073741824=true:=by{simpa using h};(repeat' first|refine yX ?_|(refine yB ?_;intro b w H)|(have hp:=H.perm (yyg (l₁:=[_,_,_]) (l₂:=M));refine zY sg 1 16 (M:=M) hp rfl rfl rfl rfl rfl rfl rfl rfl rfl rfl rfl hO (zh hp.mem (zz3 _ (zz2 _))) rfl (zx rfl) (by unfold maxLen;omega) qO ?_;clear hp hO;intro ao co M w hO H;replace H:=H.perm (yyg (l₁:=M) (l₂:=[_,_,_])))|fail)
  exact zC ⟨k+1,ao,co,M⟩ rfl ⟨zU qO,rfl,trivial⟩ ⟨hlt,fun j hj=>by
   rcases(show j<k\/j=k by have:j<k+1:=hj;omega) with g|rfl
   .exact hr j g
   .exact hrk,by show Go.Sk.Own M _ 1 ao (k+1) co _;rw[<- zMr (fun y:Ins=>Value.string y.name) s.insts default hlt];exact hO,(H.sub (zz7 _ _)).sub (zz7 _ _)⟩ (by show s.insts.length - (k+1)<s.insts.length - k;omega)
.obtain rfl:k=s.insts.length:=by have:=zzB h;omega
 have hln:(nmI s.insts).length=s.insts.length:=by simp[nmI]
 rw[List.take_length] at hO;have hO2:Go.Sk.Own M 9 1 ao (nmI s.insts).length co ((nmI s.insts).map Value.string):=by rw[hln];simpa [nmI,Function.comp_def] using hO
 have hnz:∀ k,k<(nmI s.insts).length->((nmI s.insts).getD k ByteArray.empty).size<=140737488355328:=fun k hk=>by rw[hln] at hk;have:=hz k hk;simpa [nmI,in_,yy1 hk] using this
 have hcn:=fun{G:zA} {w:World}=>zP8 (w0:=w0) (w:=w) (G:=G) (M:=M) (a:=ao) (cap:=co) (nmI s.insts) qO hnz;rw[hln] at hcn hO2;have hall:(List.range s.insts.length).all (fun k=>zB3 (in_ s.insts k).tick 1 1073741824)=true:=List.all_eq_true.2 fun k hk=>hr k (List.mem_range.1 hk);(repeat' first|refine yW ?_|(refine' y33 zTG ?_ ?_;rotate_left 2;exact hcn (H.perm (yyg (l₁:=[_]) (l₂:=M))) hO2;rintro v N w ⟨rfl,rfl⟩ H)|(refine y17 ?_ ?_;all_goals intro h)|fail);all_goals refine zG rfl H.cl (congrArg Value.bool ?_)
 all_goals rw[zEg,hall,Bool.true_and]
 all_goals simp only[decide_eq_true_eq,yyy] at h
 .rw[yyb qO];rfl
 .rw[yyc qO];rfl}
def zID (s:Sta):Bool:=zB3 s.clock 0 1099511627776&&zB3 s.fee 0 1000&&zB3 s.nextO 1 1099511627777&&zB3 s.nextA 1 1099511627777
theorem zOj (n:Int)(w0:World):Cr 175 [.int .i64 n] (.bool (zB3 n 1 1099511627777)) w0:=by refine eS func175 ntmps175 fun H=>?_;(repeat' first|refine yW ?_|(refine c0 zLI ?_;refine⟨_,zIa n 1 1099511627777 _,?_⟩;clear H;intro w H)|fail);all_goals exact zG rfl H.cl rfl
theorem zRV (s:Sta)(p:SPt)(w0:World) :
  Cr 120 [.agg (s.cells p).toArray] (.bool (zID s)) w0:=by refine eS func120 ntmps120 fun H=>?_;(repeat' first|refine yW ?_|(refine yB ?_;intro b w H)|(refine c0 zLI ?_;refine⟨_,zIa s.clock 0 1099511627776 _,?_⟩;clear H;intro w H)|(refine c0 zLI ?_;refine⟨_,zIa s.fee 0 1000 _,?_⟩;clear H;intro w H)|(refine' y34 ent175 ?_ ?_;rotate_left;exact zOj _ _;refine wQ H ?_;clear H;intro w H)|(refine y17 ?_ ?_;all_goals intro h)|fail);all_goals exact zG rfl H.cl (congrArg Value.bool (by unfold zID;simp only[*,Bool.true_and,Bool.and_true,Bool.false_and,Bool.and_false]))
def zCl (s:Sta)(o:Odr):Bool:=decide (o.id<s.nextO)&&(zBQ s.accts o.acct).2&&(zCI s.insts o.inst).2&&(o.price.tmod (zCI s.insts o.inst).1.tick==0)
def zBL (s:Sta):Bool:=zb s.orders&&(List.range s.orders.length).all fun k=>zCl s (od_ s.orders k)
theorem zCV {s:Sta}:zBL s=true↔zb s.orders=true/\∀ k,k<s.orders.length->zCl s (od_ s.orders k)=true:=by unfold zBL;rw[yy3,yye];simp only[yy8]
theorem zT0 {l:List Ins}(h:zDK l=true){a:Int}(ha:(zCI l a).2=true):1<=(zCI l a).1.tick:=by{
unfold zCI at ha ⊢;split at ha
.rename_i hh;rw[if_pos hh];exact((zJB.1 h).2 _ qO).2.1.1
.cases ha}
theorem zWe {b:Nat}{T:TypeId}{fr:Nat × Nat}{F:zA}(s:Sta)(p:SPt)(r:Row4)(w0:World)(hF:Mem w0 F)(hs0:StaM F s p)(hm:(b,Obj.cells (s.cells p).toArray T fr)∈F) :
  Cr 178 [.agg r.cells.toArray,(pt b)] (.bool ((!(r.acct==0)&&!(zBQ s.accts r.acct).2)||decide (r.asset>s.insts.length))) w0:=by{
obtain⟨ac,ok,hac⟩:∃ ac ok,zBQ s.accts r.acct=(ac,ok):=⟨_,_,rfl⟩;have opn:∀ {w:World},Mem w F->Cr 179 [.agg (s.cells p).toArray,.int .i64 r.acct] (.bool ok) w:=fun hF=>by have:=zLX s p r.acct _ hF hs0;rw[hac] at this;exact this
rw[hac];refine eS func178 ntmps178 fun H=>?_;(repeat' first|refine yW ?_|(refine yB ?_;intro b w H)|refine z13 (zF sg rfl rfl (H.memF hF) hm rfl rfl) ?_|(refine c0 zLJ ?_;refine⟨_,opn (H.memF hF),?_⟩;clear H;intro w H)|(refine y17 ?_ ?_;all_goals intro h)|fail)
all_goals first
 | (have h1:(r.acct != 0)=true:=by assumption
    have h1:(!(r.acct==0))=true:=h1
    exact zG rfl H.cl (congrArg Value.bool (by simp only[*,Bool.true_and,Bool.or_true,Bool.true_or,Bool.false_or,Bool.not_true,Bool.not_false])))
 | (have h1:(r.acct != 0)=false:=by assumption
    have h1:(!(r.acct==0))=false:=h1
    exact zG rfl H.cl (congrArg Value.bool (by simp only[*,Bool.false_and,Bool.or_true,Bool.false_or])))}
theorem zKZ {s:Sta}(hR:zAZ s.rows=true){k:Nat}(hk:k<s.rows.length) :
  ((!((rw_ s.rows k).acct==0)&&!(zBQ s.accts (rw_ s.rows k).acct).2)||decide ((rw_ s.rows k).asset>s.insts.length))=!zEe s k:=by{
have hg:=((zBw.1 hR).1 k hk).1.1;unfold zEe;generalize (zBQ s.accts (rw_ s.rows k).acct).2=ok;by_cases h1:(rw_ s.rows k).acct=0
.by_cases h2:(rw_ s.rows k).asset<=s.insts.length
 .have h3:¬ (rw_ s.rows k).asset>s.insts.length:=by{omega};simp[h1,h2]
 .have h3:(rw_ s.rows k).asset>s.insts.length:=by{omega};simp[h1,h2,h3]
.have h4:¬ (rw_ s.rows k).acct<=0:=by omega
 by_cases h2:(rw_ s.rows k).asset<=s.insts.length
 .have h3:¬ (rw_ s.rows k).asset>s.insts.length:=by{omega};cases ok<;>simp[h1,h2,h4]
 .have h3:(rw_ s.rows k).asset>s.insts.length:=by{omega};cases ok<;>simp[h1,h2,h3,h4]}
theorem c_rows {F:zA}(s:Sta)(p:SPt)(hw:∀ j,j<s.rows.length->(rw_ s.rows j).wf)(w0:World)(hF:Mem w0 F)(hs0:StaM F s p) :
  Cr 123 [.agg (s.cells p).toArray] (.bool (zDL s)) w0:=by{
let wr:=fun j=>(!((rw_ s.rows j).acct==0)&&!(zBQ s.accts (rw_ s.rows j).acct).2)||decide ((rw_ s.rows j).asset>s.insts.length)
have cont:∀ {b:Nat} {w:World},Mem w (cb b (s.cells p) 40::F)->Cr 181 [.slice p.rwA s.rows.length p.rwC,.func (.func 178) #[] #[(pt b)]] (.bool (decide (idx wr s.rows.length >= 0))) w:=fun hM =>
 zJ7 (caps:=[(pt _)]) wr _ hM (SlA.mono hs0.rw (yyu _ _)) ent178 (fun j _ w hw=>zWe s p (rw_ s.rows j) w (hM.ext hw) (hs0.mono (yyu _ _)) (zz2 _))
have fin:zAZ s.rows=true->(!decide (idx wr s.rows.length >= 0))=zDL s:=fun hR=>by
 have e:zDL s=(List.range s.rows.length).all fun k=>zEe s k:=by unfold zDL;rw[hR,Bool.true_and]
 rw[e];rcases zX wr s.rows.length with ⟨k,hk,_,hb,hx⟩|⟨ha,hx⟩
 .rw[hx,yyb qO];symm;rw[Bool.not_true,List.all_eq_false];refine⟨k,List.mem_range.2 hk,?_⟩;have:=(zKZ hR hk).symm.trans hb;simpa using this
 .rw[hx,yyc qO];symm;rw[Bool.not_false,yye];intro k hk;have hk:=List.mem_range.1 hk;have:=(zKZ hR hk).symm.trans (ha k hk);simpa using this
refine eS func123 ntmps123 fun H=>?_;(repeat' first|refine yW ?_|(refine yB ?_;intro b w H)|(refine c0 zLK ?_;refine⟨_,zLW s.rows hw _ (H.memF hF) hs0.rw,?_⟩;clear H;intro w H)|(refine c0 ent181 ?_;refine⟨_,cont (H.all hF),?_⟩;clear H;intro w H)|(refine y17 ?_ ?_;all_goals intro h)|fail)
all_goals first
 | (have h:zAZ s.rows=true:=by assumption
    exact zG rfl H.cl (congrArg Value.bool (fin h)))
 | (have h:zAZ s.rows=false:=by assumption
    refine zG rfl H.cl (congrArg Value.bool ?_);unfold zDL
    rw[h,Bool.false_and])
 | fail}
def zEh (s:Sta)(o:Odr):Bool:=decide (o.id >= s.nextO)||!(zBQ s.accts o.acct).2||!(zCI s.insts o.inst).2||(o.price.tmod (zCI s.insts o.inst).1.tick != 0)
theorem zKa (s:Sta)(o:Odr):zEh s o=!zCl s o:=by{
unfold zEh zCl;have h:decide (o.id >= s.nextO)=!decide (o.id<s.nextO):=by
 by_cases h:o.id<s.nextO
 .rw[yyb h,yyc qO];rfl
 .rw[yyc h,yyb qO];rfl
rw[h,bne];simp only[Bool.not_and]}
theorem zRW {b:Nat}{T:TypeId}{fr:Nat × Nat}{F:zA}(s:Sta)(p:SPt)(hi:zDK s.insts=true)(o:Odr)(w0:World)(hF:Mem w0 F)(hs0:StaM F s p)(hm:(b,Obj.cells (s.cells p).toArray T fr)∈F) :
  Cr 182 [.agg o.cells.toArray,(pt b)] (.bool (zEh s o)) w0:=by{
have htk:=zT0 hi (a:=o.inst);obtain⟨ac,ok,hac⟩:∃ ac ok,zBQ s.accts o.acct=(ac,ok):=⟨_,_,rfl⟩;obtain⟨ins,is,his⟩:∃ ac ok,zCI s.insts o.inst=(ac,ok):=⟨_,_,rfl⟩;have opn:∀ {w:World},Mem w F->Cr 179 [.agg (s.cells p).toArray,.int .i64 o.acct] (.bool ok) w:=fun hF=>by have:=zLX s p o.acct _ hF hs0;rw[hac] at this;exact this
have inst:∀ {w:World},Mem w F->Cr 183 [.agg (s.cells p).toArray,.int .i64 o.inst] (.tuple #[.agg ins.cells.toArray,.bool is]) w:=fun hF=>by have:=zTq s p o.inst _ hF hs0;rw[his] at this;exact this
have hso:zEh s o=(decide (o.id >= s.nextO)||!ok||!is||(o.price.tmod ins.tick != 0)):=by unfold zEh;rw[hac,his]
rw[his] at htk;rw[hso];refine eS func182 ntmps182 fun H=>?_;(repeat' first|refine yW ?_|(refine yB ?_;intro b w H)|(refine y11 sg H ?_;intro w H)|refine z13 (zF sg rfl rfl (H.memF hF) hm rfl rfl) ?_|(refine c0 zLJ ?_;refine⟨_,opn (H.memF hF),?_⟩;clear H;intro w H)|(refine c0 zTH ?_;refine⟨_,inst (H.memF hF),?_⟩;clear H;intro w H)|(refine za rfl rfl (Yq.rem rfl rfl rfl ?_) ?_;(have h9:=htk (by simpa using h);have h9:1<=ins.tick:=h9;omega))|(refine y17 ?_ ?_;all_goals intro h)|fail);all_goals simp only[Bool.not_eq_true',Bool.not_eq_false',decide_eq_true_eq,yyy] at *
all_goals exact zG rfl H.cl (congrArg Value.bool (by simp only[*,decide_true,decide_false,Bool.true_or,Bool.or_true,Bool.false_or,Bool.or_false,Bool.not_true,Bool.not_false]))}
theorem zT1 {F:zA}(s:Sta)(p:SPt)(hi:zDK s.insts=true)(w0:World)(hF:Mem w0 F)(hs0:StaM F s p) :
  Cr 124 [.agg (s.cells p).toArray] (.bool (zBL s)) w0:=by{
have cont:∀ {b:Nat} {w:World},Mem w (cb b (s.cells p) 40::F)->Cr 133 [.slice p.odA s.orders.length p.odC,.func (.func 182) #[] #[(pt b)]] (.bool (decide (idx (fun j=>zEh s (od_ s.orders j)) s.orders.length >= 0))) w:=fun hM =>
 zDy (caps:=[(pt _)]) (fun j=>zEh s (od_ s.orders j)) _ hM (SlA.mono hs0.od (yyu _ _)) ent182 (fun j _ w hw=>zRW s p hi (od_ s.orders j) w (hM.ext hw) (hs0.mono (yyu _ _)) (zz2 _))
have fin:zb s.orders=true->(!decide (idx (fun j=>zEh s (od_ s.orders j)) s.orders.length >= 0))=zBL s:=fun hR=>by
 have e:zBL s=(List.range s.orders.length).all fun k=>zCl s (od_ s.orders k):=by unfold zBL;rw[hR,Bool.true_and]
 rw[e];rcases zX (fun j=>zEh s (od_ s.orders j)) s.orders.length with ⟨k,hk,_,hb,hx⟩|⟨ha,hx⟩
 .rw[hx,yyb qO];symm;rw[Bool.not_true,List.all_eq_false];refine⟨k,List.mem_range.2 hk,?_⟩;have:=(zKa s _).symm.trans hb;simpa using this
 .rw[hx,yyc qO];symm;rw[Bool.not_false,yye];intro k hk;have hk:=List.mem_range.1 hk;have:=(zKa s _).symm.trans (ha k hk);simpa using this
refine eS func124 ntmps124 fun H=>?_;(repeat' first|refine yW ?_|(refine yB ?_;intro b w H)|(refine c0 zC0 ?_;refine⟨_,zAo s.orders _ (H.memF hF) hs0.od,?_⟩;clear H;intro w H)|(refine c0 zLH ?_;refine⟨_,cont (H.all hF),?_⟩;clear H;intro w H)|(refine y17 ?_ ?_;all_goals intro h)|fail)
all_goals first
 | (have h:zb s.orders=true:=by assumption
    exact zG rfl H.cl (congrArg Value.bool (fin h)))
 | (have h:zb s.orders=false:=by assumption
    refine zG rfl H.cl (congrArg Value.bool ?_);unfold zBL
    rw[h,Bool.false_and])
 | fail}
abbrev au_ (l:List Auc)(k:Nat):Auc:=l.getD k default
def zHg (s:Sta)(l:List Bid)(k:Nat):Bool:=!(zBQ s.accts (l.getD k default).acct).2
def zIb (s:Sta)(l:List Bid):Bool:=decide (idx (zHg s l) l.length >= 0)
def zCW (s:Sta)(x:Auc):Bool:=decide (x.id >= s.nextA)||!(zBQ s.accts x.seller).2||!(zCI s.insts x.inst).2||zIb s x.bids
def zDM (s:Sta):Bool:=zAF s.aucs&&!decide (idx (fun j=>zCW s (au_ s.aucs j)) s.aucs.length >= 0)
theorem zLg {b:Nat}{T:TypeId}{fr:Nat × Nat}{F:zA}(s:Sta)(p:SPt)(d:Bid)(w0:World)(hF:Mem w0 F)(hs0:StaM F s p)(hm:(b,Obj.cells (s.cells p).toArray T fr)∈F) :
  Cr 185 [.agg d.cells.toArray,(pt b)] (.bool (!(zBQ s.accts d.acct).2)) w0:=by
 obtain⟨ac,ok,hac⟩:∃ ac ok,zBQ s.accts d.acct=(ac,ok):=⟨_,_,rfl⟩;have opn:∀ {w:World},Mem w F->Cr 179 [.agg (s.cells p).toArray,.int .i64 d.acct] (.bool ok) w:=fun hF=>by have:=zLX s p d.acct _ hF hs0;rw[hac] at this;exact this
 rw[hac];refine eS func185 ntmps185 fun H=>?_;(repeat' first|refine yW ?_|(refine yB ?_;intro b w H)|refine z13 (zF sg rfl rfl (H.memF hF) hm rfl rfl) ?_|(refine c0 zLJ ?_;refine⟨_,opn (H.memF hF),?_⟩;clear H;intro w H)|fail);all_goals exact zG rfl H.cl rfl
theorem zMs {b:Nat}{T:TypeId}{fr:Nat × Nat}{F:zA}{ba:OA}{bc:Nat}(s:Sta)(p:SPt)(x:Auc)(w0:World)(hF:Mem w0 F)(hb:Bids F ba bc x.bids)(hs0:StaM F s p)(hm:(b,Obj.cells (s.cells p).toArray T fr)∈F) :
  Cr 184 [.agg (x.cells ba bc).toArray,(pt b)] (.bool (zCW s x)) w0:=by{
obtain⟨ac,ok,hac⟩:∃ ac ok,zBQ s.accts x.seller=(ac,ok):=⟨_,_,rfl⟩;obtain⟨ins,is,his⟩:∃ ac ok,zCI s.insts x.inst=(ac,ok):=⟨_,_,rfl⟩;obtain⟨bb,hbb⟩:∃ bb,zIb s x.bids=bb:=⟨_,rfl⟩;have opn:∀ {w:World},Mem w F->Cr 179 [.agg (s.cells p).toArray,.int .i64 x.seller] (.bool ok) w:=fun hF=>by have:=zLX s p x.seller _ hF hs0;rw[hac] at this;exact this
have inst:∀ {w:World},Mem w F->Cr 186 [.agg (s.cells p).toArray,.int .i64 x.inst] (.bool is) w:=fun hF=>by have:=zWV s p x.inst _ hF hs0;rw[his] at this;exact this
have cont:∀ {w:World},Mem w F->Cr 187 [.slice ba x.bids.length bc,.func (.func 185) #[] #[(pt b)]] (.bool bb) w:=fun hM =>
 hbb ▸ zDx (caps:=[(pt _)]) (zHg s x.bids) _ hM hb ent185 (fun j _ w hw=>zLg s p (x.bids.getD j default) w (hM.ext hw) hs0 hm)
have hso:zCW s x=(decide (x.id >= s.nextA)||!ok||!is||bb):=by unfold zCW;rw[hac,his,hbb]
rw[hso];refine eS func184 ntmps184 fun H=>?_;(repeat' first|refine yW ?_|(refine yB ?_;intro b w H)|refine z13 (zF sg rfl rfl (H.memF hF) hm rfl rfl) ?_|(refine c0 zLJ ?_;refine⟨_,opn (H.memF hF),?_⟩;clear H;intro w H)|(refine c0 ent186 ?_;refine⟨_,inst (H.memF hF),?_⟩;clear H;intro w H)|(refine c0 zOI ?_;refine⟨_,cont (H.memF hF),?_⟩;clear H;intro w H)|(refine y17 ?_ ?_;all_goals intro h)|fail);all_goals simp only[Bool.not_eq_true',Bool.not_eq_false',decide_eq_true_eq,yyy] at *
all_goals exact zG rfl H.cl (congrArg Value.bool (by simp only[*,decide_true,decide_false,Bool.true_or,Bool.or_true,Bool.false_or,Bool.or_false,Bool.not_true,Bool.not_false]))}
theorem zOk {F:zA}(s:Sta)(p:SPt)(w0:World)(hF:Mem w0 F)(hs0:StaM F s p) :
  Cr 125 [.agg (s.cells p).toArray] (.bool (zDM s)) w0:=by{
have cont:∀ {b:Nat} {w:World},Mem w (cb b (s.cells p) 40::F)->Cr 188 [.slice p.auA s.aucs.length p.auC,.func (.func 184) #[] #[(pt b)]] (.bool (decide (idx (fun j=>zCW s (au_ s.aucs j)) s.aucs.length >= 0))) w:=fun hM =>
 zJ8 (caps:=[(pt _)]) (fun j=>zCW s (au_ s.aucs j)) _ hM (SlA.mono hs0.au.1 (yyu _ _)) ent184 (fun j hj w hw=>zMs s p (au_ s.aucs j) w (hM.ext hw) (SlA.mono (hs0.au.2 j hj) (yyu _ _)) (hs0.mono (yyu _ _)) (zz2 _))
have fin:zAF s.aucs=true->(!decide (idx (fun j=>zCW s (au_ s.aucs j)) s.aucs.length >= 0))=zDM s:=fun hR=>by unfold zDM;rw[hR,Bool.true_and]
refine eS func125 ntmps125 fun H=>?_;(repeat' first|refine yW ?_|(refine yB ?_;intro b w H)|(refine c0 zPv ?_;refine⟨_,zGt s.aucs p.ad _ (H.memF hF) hs0.au,?_⟩;clear H;intro w H)|(refine c0 ent188 ?_;refine⟨_,cont (H.all hF),?_⟩;clear H;intro w H)|(refine y17 ?_ ?_;all_goals intro h)|fail)
all_goals first
 | (have h:zAF s.aucs=true:=by assumption
    exact zG rfl H.cl (congrArg Value.bool (fin h)))
 | (have h:zAF s.aucs=false:=by assumption
    refine zG rfl H.cl (congrArg Value.bool ?_);unfold zDM
    rw[h,Bool.false_and])
 | fail}
end
end Go.Proofs.YtejhijhnlogikaaGreatDoor
