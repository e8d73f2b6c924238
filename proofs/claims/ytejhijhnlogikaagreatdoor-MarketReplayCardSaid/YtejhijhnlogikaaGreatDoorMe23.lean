/- Steps of the proof. -/
import Derived.Test.YtejhijhnlogikaaGreatDoorMe22
set_option linter.all false
set_option maxHeartbeats 16000000
namespace Go.Proofs.YtejhijhnlogikaaGreatDoor
section
open Go Go.Sk Go.RowKit Tryz
attribute [local irreducible] Go.Calls
section
variable {F:zA}{bm:Nat}{s:Sta}{p:SPt}{n:List Int}{na:OA}{nc:Nat}{t:ByteArray}{Ma Mi Mu R:zA}
theorem zVH {w0 w:World}(hl:3<=n.length)(hz:0<=nF n 2/\nF n 2<=1125899906842624)(htop:∀ j,j<s.aucs.length->0<=(zAN (au_ s.aucs j)).1.amount/\(zAN (au_ s.aucs j)).1.amount<=1125899906842624)(htl:∀ j,j<s.aucs.length->(zN (au_ s.aucs j) ⟨nF n 1,nF n 2⟩).1.bids.length<=100000)(hLt:LtS s)(hW:WfR s)(H:St w0 (mkL bm (mkc s p n na nc t) Ma Mi Mu R) w)(hC:Cps s p Ma Mi Mu R)(hF:Mem w0 F)(hN:Ints F na nc n) :
  Calls prog 166 [(pt bm)].toArray w (zZ (zCE bm n na nc t (zJE s n false)) w0):=by refine eN func166 ntmps166 ?_;(repeat' first|refine yX ?_|(refine zW rfl rfl (En.fn zTO rfl rfl) (zQl false hl hz htop htl hLt hW H hC hF hN) ?_;rintro _ _ w ⟨rfl,hR2⟩ H2;clear H;have H:=H2;clear H2)|fail);exact zL (M:=_) rfl H ⟨rfl,hR2⟩
theorem c_bid {w0 w:World}(hl:3<=n.length)(hz:0<=nF n 2/\nF n 2<=1125899906842624)(htop:∀ j,j<s.aucs.length->0<=(zAN (au_ s.aucs j)).1.amount/\(zAN (au_ s.aucs j)).1.amount<=1125899906842624)(htl:∀ j,j<s.aucs.length->(zN (au_ s.aucs j) ⟨nF n 1,nF n 2⟩).1.bids.length<=100000)(hLt:LtS s)(hW:WfR s)(H:St w0 (mkL bm (mkc s p n na nc t) Ma Mi Mu R) w)(hC:Cps s p Ma Mi Mu R)(hF:Mem w0 F)(hN:Ints F na nc n) :
  Calls prog 168 [(pt bm)].toArray w (zZ (zCE bm n na nc t (zJE s n true)) w0):=by refine eN func168 ntmps168 ?_;(repeat' first|refine yX ?_|(refine zW rfl rfl (En.fn zTO rfl rfl) (zQl true hl hz htop htl hLt hW H hC hF hN) ?_;rintro _ _ w ⟨rfl,hR2⟩ H2;clear H;have H:=H2;clear H2)|fail);exact zL (M:=_) rfl H ⟨rfl,hR2⟩
end
end
section
open Go Go.Sk Go.RowKit Tryz
attribute [local irreducible] Go.Calls
def bkP (y:Bid):Pst:=⟨y.acct,0,y.amount,-y.amount⟩
theorem zXL (l:List Bid){j:Nat}(h:j<l.length):(l.take (j+1)).map bkP=(l.take j).map bkP++[bkP (l.getD j default)]:=by rw[yyj h,List.map_append,yy2,yy1 h];rfl
theorem lift2 {w0 w:World}{x1 x2 y:Nat × Obj}{N A B C E:zA}(H:St w0 (N++(x1::x2::y::(A++(B++(C++E))))) w):St w0 (y::(A++(B++(C++(E++(N++[x1,x2])))))) w:=by refine St.perm ?_ (zCY (N++[x1,x2]));simpa only[yyh,List.cons_append,List.nil_append] using H
theorem zVI (l:List Auc)(k j:Nat):(l.eraseIdx k).getD j default=if j<k then l.getD j default else l.getD (j+1) default:=by rw[yy2,List.getElem?_eraseIdx];split<;>rw[yy2]
def adD (ad:Nat->OA × Nat)(k j:Nat):OA × Nat:=if j<k then ad j else ad (j+1)
theorem zXM (l:List Auc)(ad:Nat->OA × Nat)(k j:Nat):ael (l.eraseIdx k) (adD ad k) j=if j<k then ael l ad j else ael l ad (j+1):=by unfold ael adD;rw[zVI];split<;>rfl
section
variable {F:zA}{bm:Nat}{s:Sta}{p:SPt}{n:List Int}{na:OA}{nc:Nat}{t:ByteArray}{Ma Mi Mu R:zA}
theorem zNe {w0 w:World}(k:Nat)(hkl:k<s.aucs.length)(ps:List Pst)(hps:ps.length<=1000){Mp:zA}{ap:OA}{cp:Nat}(hO:Go.Sk.Own Mp 266 4 ap ps.length cp (ps.flatMap Pst.cells))
  (hbd:∀ y∈(au_ s.aucs k).bids,0<=y.amount/\y.amount<=1125899906842624) (hq:0<=(au_ s.aucs k).qty/\(au_ s.aucs k).qty<=1125899906842624) (hLt:LtS s) (hW:WfR s) (H:St w0 (Mp++mkL bm (mkc s p n na nc t) Ma Mi Mu R) w) (hC:Cps s p Ma Mi Mu R) :
  Calls prog 229 [(pt bm),.int .i64 (k:Int),.slice ap ps.length cp].toArray w (zZ (zCE bm n na nc t (zAz s k ps)) w0):=by{
obtain⟨g,cs,hA,rfl,hcap,hcm,hcl,hE⟩:=zCA (n:=s.aucs.length) (el:=ael s.aucs p.ad) hC.au qO (fun _ _=>rfl);have hsI:=hE.slb (F:=[cb g cs 86]) (T:=86) (zz2 _);rw[<- hA] at hsI;have hfit:=(hE _ hkl).1;have hbl:=hLt.bd k hkl;obtain⟨hnB,hcB,bB,offB,csB,TB,frB,hsB⟩:=hC.bd k hkl;refine eN func229 ntmps229 ?_;(repeat' first|refine yX ?_|(refine yB ?_;intro b w H)|(refine y11 sg H ?_;intro w H)|refine x40 sg hsI ?_|(refine y42 sg (hsI) ((show Mem _ [cb g cs 86] from fun p hp=>H.mem p (by cases List.mem_singleton.1 hp;simp))) ?_ ?_;(omega))|refine z13 (zF sg rfl rfl (show Mem _ [cb bm (mkc s p n na nc t) 182] from fun p hp=>H.mem p (by cases List.mem_singleton.1 hp;simp)) (zz2 _) rfl rfl) ?_|fail)
refine zD [(2,2),(9,9),(22,37)] (fun x:Gr × List Pst=>[(22,.int .i64 (x.1.k:Int)),(2,.slice x.1.a x.2.length x.1.cap)])
 (fun x w=>x.1.k<=(au_ s.aucs k).bids.length/\x.2=ps++((au_ s.aucs k).bids.take x.1.k).map bkP/\Go.Sk.Own x.1.M 266 4 x.1.a x.2.length x.1.cap (x.2.flatMap Pst.cells)/\St w0 (x.1.M++(cb b ((au_ s.aucs k).cells (p.ad k).1 (p.ad k).2) 86::mkL bm (mkc s p n na nc t) Ma Mi [cb g cs 86] R)) w)
 (fun x=>(au_ s.aucs k).bids.length - x.1.k) (⟨0,ap,cp,Mp⟩,ps) ⟨rfl,rfl,trivial⟩ ⟨zzD _,by simp,hO,H.perm List.perm_middle.symm⟩ ?_
clear H hO;rintro⟨⟨j,ao,co,M⟩,u⟩ gh w ⟨hj,hu,hO,H⟩;simp only at hj hu hO H ⊢;have hul:u.length<=1000+j:=by rw[hu,yy4,yyp];have:=List.length_take_le j (au_ s.aucs k).bids;omega
have hbl2:(au_ s.aucs k).bids.length<=100000:=hbl;(repeat' first|refine yX ?_|fail);refine zB rfl (fun h=>?_) (fun h=>?_)
.have hlt:j<(au_ s.aucs k).bids.length:=by have:=zzA h;exact Int.ofNat_lt.1 this
 clear h;have hy:=hbd _ (zAP (default:Bid) hlt);have hneg:IntKind.i64.wrap (0 - ((au_ s.aucs k).bids.getD j default).amount)=-((au_ s.aucs k).bids.getD j default).amount:=by rw[w64 qO qO];omega
 (repeat' first|refine yX ?_|(refine yB ?_;intro b w H)|(refine y11 sg H ?_;intro w H)|(refine y40 sg (hsB) ?_ ?_ ?_;(omega);(exact Int.ofNat_lt.2 hlt))|(refine y42 sg (hsB) ((show Mem _ R from fun p hp=>H.mem p (by simp[hp]))) ?_ ?_;(exact hlt))|(refine zBA sg H ?_;intro b w H _)|(have hp:=H.perm zIl;refine zY sg 4 32 (M:=M) hp rfl rfl rfl rfl rfl rfl rfl rfl rfl rfl rfl hO (zh hp.mem (zz3 _ (zz2 _))) rfl (zx rfl) (show u.length+1<=maxLen by unfold maxLen;omega) (show(u.length+1)*32<=140737488355328 by omega) ?_;clear hp hO;intro ao co M w hO H)|fail);rw[hneg] at hO;have hO2:Go.Sk.Own M 266 4 ao (u++[bkP ((au_ s.aucs k).bids.getD j default)]).length co ((u++[bkP ((au_ s.aucs k).bids.getD j default)]).flatMap Pst.cells):=by rw[yy4,yy9,yya];exact hO
 exact zC (⟨j+1,ao,co,M⟩,u++[bkP ((au_ s.aucs k).bids.getD j default)]) rfl ⟨zU qO,by show Value.slice ao _ co=Value.slice ao _ co;rw[yy4];rfl,trivial⟩
  ⟨hlt,by
   show u++_=_
   rw[hu,zXL _ hlt,yyh],hO2,H.sub ((yy7 M).append ((zz7 _ _).trans (zz7 _ _)))⟩ (by show(au_ s.aucs k).bids.length - (j+1)<(au_ s.aucs k).bids.length - j;omega)
.obtain rfl:j=(au_ s.aucs k).bids.length:=by have:=zzB h;have h9:¬ (j:Int)<((au_ s.aucs k).bids.length:Int):=this;omega
 clear h;rw[List.take_length] at hu;have hneg:IntKind.i64.wrap (0 - (au_ s.aucs k).qty)=-(au_ s.aucs k).qty:=by rw[w64 qO qO];omega
 replace H:=H.perm List.perm_middle;(repeat' first|refine yX ?_|(refine zBA sg H ?_;intro b w H _)|(have hp:=H.perm zIl;refine zY sg 4 32 (M:=M) hp rfl rfl rfl rfl rfl rfl rfl rfl rfl rfl rfl hO (zh hp.mem (zz3 _ (zz2 _))) rfl (zx rfl) (show u.length+1<=maxLen by unfold maxLen;omega) (show(u.length+1)*32<=140737488355328 by omega) ?_;clear hp hO;intro ao co M w hO H)|fail);rw[hneg] at hO;have hPS:u++[⟨(au_ s.aucs k).seller,(au_ s.aucs k).inst,(au_ s.aucs k).qty,-(au_ s.aucs k).qty⟩]=ps++zAj (au_ s.aucs k):=by rw[hu,yyh];rfl
 have hlen:u.length+1=(ps++zAj (au_ s.aucs k)).length:=by rw[<- hPS,yy4];rfl
 have O3:Go.Sk.Own M 266 4 ao (ps++zAj (au_ s.aucs k)).length co ((List.range (ps++zAj (au_ s.aucs k)).length).flatMap (qsl (ps++zAj (au_ s.aucs k)))):=by rw[show(List.range (ps++zAj (au_ s.aucs k)).length).flatMap (qsl (ps++zAj (au_ s.aucs k)))=(ps++zAj (au_ s.aucs k)).flatMap Pst.cells from zBF Pst.cells _ default,<- hPS,yy4,yy9,yya];exact hO
 have H9:=lift2 (A:=Ma) (B:=Mi) (C:=[cb g cs 86]) (E:=R) H;clear H;have H:=H9;clear H9;rw[hlen];have eP:zAz s k ps=if (zf s (ps++zAj (au_ s.aucs k))).2≠0 then zf s (ps++zAj (au_ s.aucs k)) else({ (zf s (ps++zAj (au_ s.aucs k))).1 with aucs:=s.aucs.eraseIdx k },0):=rfl
 rw[eP];(repeat' first|refine yX ?_|(refine zW rfl rfl (En.fn zGT rfl rfl) (zGf hLt hW (ps++zAj (au_ s.aucs k)) H (hC.mono (fun p hp=>zz6 _ hp)) H.mem (O3.sl (fun p hp=>by simp[hp]) (fun _ _=>rfl) (by rw[<- hlen];omega))) ?_;rintro _ _ w ⟨rfl,p',M',rfl,hC'⟩ H2;clear H;have H:=H2;clear H2)|fail);by_cases h6:(zf s (ps++zAj (au_ s.aucs k))).2≠0
 .have d8:((zf s (ps++zAj (au_ s.aucs k))).2 != 0)=true:=by{simpa using h6};rw[if_pos h6]
  refine CW.condT (congrArg Value.bool d8) ?_;(repeat' first|refine yX ?_|fail);exact zL (M:=_) rfl H ⟨rfl,fun h=>absurd h h6⟩
 have d8:((zf s (ps++zAj (au_ s.aucs k))).2 != 0)=false:=by simpa using h6
 rw[if_neg h6];refine CW.condF (congrArg Value.bool d8) ?_;obtain⟨rs,hrs⟩:=zDb s (ps++zAj (au_ s.aucs k));rw[hrs] at H hC' ⊢;obtain⟨g',cs',hA',hMu,hcap',hcm',hcl',hE'⟩:=zCA (n:=s.aucs.length) (el:=ael s.aucs p'.ad) hC'.au qO (fun _ _=>rfl);rw[hMu] at H;replace H:=H.perm zDt;have hau:=hLt.au;have hj1:IntKind.i64.wrap ((k:Int)+1)=((k+1:Nat):Int):=by rw[w64 qO qO];omega
 have hdel:=fun(w:World) (G:zA) (H:St w0 (cb g' cs' 86::G) w)=>zR8 (cap:=p'.auC) (i:=k) (j:=IntKind.i64.wrap ((k:Int)+1)) H hE' (fun _ _=>rfl) (fun _ _=>zx rfl) hkl hj1 qO hcap';rw[<- hA'] at hdel;(repeat' first|refine yX ?_|(refine y11 sg H ?_;intro w H)|(refine zW rfl rfl (En.fn ent264 rfl rfl) (hdel _ _ H) ?_;rintro _ _ w ⟨rfl,cs2,rfl,hl2,hE2⟩ H2;clear H;have H:=H2;clear H2)|fail);have hlx:s.aucs.length - 1=(s.aucs.eraseIdx k).length:=by rw[List.length_eraseIdx_of_lt hkl]
 have O9:Go.Sk.Own [cb g' cs2 86] 86 9 p'.auA (s.aucs.eraseIdx k).length p'.auC ((List.range (s.aucs.eraseIdx k).length).flatMap (ael (s.aucs.eraseIdx k) (adD p'.ad k))):=by rw[hA',<- hlx];exact Els.own (hE2.congr fun j _=>(zXM s.aucs p'.ad k j).symm) (fun _ _=>rfl) qO hcm' (hl2.trans hcl')
 rw[hlx] at H;replace H:=H.perm zDt.symm;refine zL (M:=mkL bm (mkc { s with rows:=rs,aucs:=s.aucs.eraseIdx k } { p' with ad:=adD p'.ad k } n na nc t) Ma Mi _ _) rfl H ⟨rfl,fun _=>⟨{ p' with ad:=adD p'.ad k },Ma,Mi,_,_,rfl,hC'.ac,hC'.ins,hC'.rw,hC'.od,O9,fun j hj=>?_⟩⟩;show Bids _ (adD p'.ad k j).1 (adD p'.ad k j).2 ((s.aucs.eraseIdx k).getD j default).bids;have hj:j<(s.aucs.eraseIdx k).length:=hj;rw[<- hlx] at hj;rw[zVI];unfold adD;split
 .exact hC'.bd j (show j<s.aucs.length by omega)
 .exact hC'.bd (j+1) (show j+1<s.aucs.length by omega)}
end
end
section
open Go Go.Sk Go.RowKit Tryz
attribute [local irreducible] Go.Calls
structure AuB (s:Sta):Prop where
 h64:R64 s.rows
 fee:0<=s.fee/\s.fee<=1000
 win:∀ j,j<s.aucs.length->0<=(zH (au_ s.aucs j)).1.amount/\(zH (au_ s.aucs j)).1.amount<=1125899906842624
 qty:∀ j,j<s.aucs.length->0<=(au_ s.aucs j).qty/\(au_ s.aucs j).qty<=1125899906842624
 bds:∀ j,j<s.aucs.length->∀ y∈(au_ s.aucs j).bids,0<=y.amount/\y.amount<=1125899906842624
section
variable {F:zA}{bm:Nat}{s:Sta}{p:SPt}{n:List Int}{na:OA}{nc:Nat}{t:ByteArray}{Ma Mi Mu R:zA}
theorem zVJ {w0 w:World}(hB:AuB s)(hl:1<=n.length)(hLt:LtS s)(hW:WfR s)(H:St w0 (mkL bm (mkc s p n na nc t) Ma Mi Mu R) w)(hC:Cps s p Ma Mi Mu R)(hF:Mem w0 F)(hN:Ints F na nc n) :
  Calls prog 170 [(pt bm)].toArray w (zZ (zCE bm n na nc t (zCn s n)) w0):=by{
have hpl:=fun w (G:zA) (hG:Mem w G) (hM:Mkt G bm s p n na nc t)=>zHu qO hLt.au w hG hM;have hlt:=zMG s (nF n 0);have eP:zCn s n=if zAI s (nF n 0)<0 then(s,5) else if (zI s (au_ s.aucs (zAI s (nF n 0)).toNat)).2.2=true\/zAW (au_ s.aucs (zAI s (nF n 0)).toNat) s.clock=false then(s,46) else zAz s (zAI s (nF n 0)).toNat []:=rfl
rw[eP];clear eP;by_cases h0:zAI s (nF n 0)<0
.have d0:decide (zAI s (nF n 0)<0)=true:=yyb h0;rw[if_pos h0];refine eN func170 ntmps170 ?_;(repeat' first|refine yW ?_|(refine c0 zEW ?_;refine⟨_,hpl _ _ (H.all hF) (ze hC hLt hN),?_⟩;clear H;intro w H)|fail);exact zL (M:=_) rfl H ⟨rfl,fun h=>absurd h (show(5:Int)≠0 by decide)⟩
obtain⟨k,hk⟩:∃ k:Nat,zAI s (nF n 0)=k:=⟨(zAI s (nF n 0)).toNat,by omega⟩;rw[hk] at hpl hlt h0 ⊢;rw[Int.toNat_natCast,if_neg h0];have hkl:k<s.aucs.length:=by omega
obtain⟨g,cs,hA,rfl,hcap,hcm,hcl,hE⟩:=zCA (n:=s.aucs.length) (el:=ael s.aucs p.ad) hC.au qO (fun _ _=>rfl);have hsI:=hE.slb (F:=[cb g cs 86]) (T:=86) (zz2 _);rw[<- hA] at hsI;have hfit:=(hE _ hkl).1;have hwin:=fun w (G:zA) (hG:Mem w G) (hM:Mkt G bm s p n na nc t) (hb:Bids G (p.ad k).1 (p.ad k).2 (au_ s.aucs k).bids)=>zHv (au_ s.aucs k) hB.h64 hB.fee (hB.qty k hkl) (hB.win k hkl) w hG hM hb;refine eN func170 ntmps170 ?_;(repeat' first|refine yW ?_|(refine yB ?_;intro b w H)|(refine y11 sg H ?_;intro w H)|(refine c0 zEW ?_;refine⟨_,hpl _ _ (H.all hF) (ze hC hLt hN),?_⟩;clear H;intro w H)|refine x40 sg hsI ?_|(refine y42 sg (hsI) ((show Mem _ [cb g cs 86] from fun p hp=>H.mem p (by cases List.mem_singleton.1 hp;simp))) ?_ ?_;(omega))|(refine c0 zOK ?_;refine⟨_,hwin _ _ (H.all hF) (ze hC hLt hN) (SlA.mono (hC.bd k hkl) qS),?_⟩;clear H;intro w H)|fail);have hsI2:=hsI.mono (G:=cb g cs 86::cb bm (mkc s p n na nc t) 182::F) (by intro q hq;cases List.mem_singleton.1 hq;exact zz2 _);cases dw:(zI s (au_ s.aucs k)).2.2 with
| true =>
  rw[if_pos (.inl rfl)];(repeat' first|refine yX ?_|(refine CW.regionL mixed 18 (z6 (x:=cb g cs 86) (y:=cb bm (mkc s p n na nc t) 182) H hF (hx:=by simp)) [] ?_ ?_;exact rfl;refine wQ H ?_;clear H;intro w H;have qh:=z6 (x:=cb g cs 86) (y:=cb bm (mkc s p n na nc t) 182) H hF (hx:=by simp);refine lT sg 0 qh ?_;refine lT sg 1 qh ?_;refine l8 2 qh ?_;refine l8 3 qh ?_;refine l8 4 qh ?_;refine l8 5 qh ?_;refine l8 6 qh ?_;refine l8 7 qh ?_;refine l8 8 qh ?_;refine l8 9 qh ?_;refine l8 10 qh ?_;refine l8 11 qh ?_;refine l8 12 qh ?_;refine l8 13 qh ?_;refine l8 14 qh ?_)|refine lN ?_|refine l2 15 ?_|refine l2 16 ?_|refine l2 17 ?_|(refine l5 (z6 H hF (hx:=by simp)) ?_)|fail);exact zL (M:=_) rfl H ⟨rfl,fun h=>absurd h (show(46:Int)≠0 by decide)⟩
| false =>
  (repeat' first|refine yX ?_|(refine CW.regionL mixed 18 (z6 (x:=cb g cs 86) (y:=cb bm (mkc s p n na nc t) 182) H hF (hx:=by simp)) [] ?_ ?_;exact rfl;refine wQ H ?_;clear H;intro w H;have qh:=z6 (x:=cb g cs 86) (y:=cb bm (mkc s p n na nc t) 182) H hF (hx:=by simp);refine lT sg 0 qh ?_;refine lT sg 1 qh ?_;refine' l7 2 qh ?_ ?_;rotate_left;(exact z4 sg);refine' l7 3 qh ?_ ?_;rotate_left;(exact z4 sg);refine' l7 4 qh ?_ ?_;rotate_left;(exact z4 sg);refine' l7 5 qh ?_ ?_;rotate_left;(exact z4 sg);refine' l7 6 qh ?_ ?_;rotate_left;(exact z3 sg);refine' l7 7 qh ?_ ?_;rotate_left;(exact z4 sg);refine' l7 8 qh ?_ ?_;rotate_left;(exact(fun w2 _=>zAO sg hsI rfl rfl rfl rfl rfl rfl rfl (zz1 k) qO qO));refine' l7 9 qh ?_ ?_;rotate_left;(exact(fun w2 hM2=>zA7 sg hsI2 hM2 rfl rfl rfl rfl rfl hkl));refine' l7 10 qh ?_ ?_;rotate_left;(exact z4 sg);refine' l7 11 qh ?_ ?_;rotate_left;(exact z4 sg);refine' l7 12 qh ?_ ?_;rotate_left;(exact z4 sg);refine' l7 13 qh ?_ ?_;rotate_left;(exact z4 sg);refine' l7 14 qh ?_ ?_;rotate_left;(exact z3 sg))|refine lN ?_|refine l2 15 ?_|refine l2 16 ?_|refine l2 17 ?_|(refine l5 (z6 H hF (hx:=by simp)) ?_)|(refine c0 zKO ?_;refine⟨_,zKV (au_ s.aucs k) s.clock _ H.mem (SlA.mono (hC.bd k hkl) qS),?_⟩;clear H;intro w H)|fail);by_cases h3:zAW (au_ s.aucs k) s.clock=false
  .rw[if_pos (.inr h3)];refine CW.condT (congrArg Value.bool (show(!zAW (au_ s.aucs k) s.clock)=true by rw[h3];rfl)) ?_;(repeat' first|refine yX ?_|fail);exact zL (M:=_) rfl H ⟨rfl,fun h=>absurd h (show(46:Int)≠0 by decide)⟩
  .rw[if_neg (fun h=>h.elim (by intro g;cases g) h3)];refine CW.condF (congrArg Value.bool (show(!zAW (au_ s.aucs k) s.clock)=false by simpa using h3)) ?_;replace H:=H.sub (zz7 _ _);(repeat' first|refine yX ?_|(refine zW rfl rfl (En.fn zTP rfl rfl) (zNe k hkl [] (zzD _) (Mp:=[]) (zWD _ _ _) (hB.bds k hkl) (hB.qty k hkl) hLt hW H hC) ?_;rintro _ _ w ⟨rfl,hR2⟩ H2;clear H;have H:=H2;clear H2)|fail);exact zL (M:=_) rfl H ⟨rfl,hR2⟩}
end
end
section
open Go Go.Sk Go.RowKit Tryz
attribute [local irreducible] Go.Calls
theorem z63 {w0 w:World}{L F:zA}{x y z:Nat × Obj}(H:St w0 L w)(hF:Mem w0 F)(hx:x∈L:=by repeat (first|exact zz2 _|refine zz5 _ ?_))(hy:y∈L:=by repeat (first|exact zz2 _|refine zz5 _ ?_))(hz:z∈L:=by repeat (first|exact zz2 _|refine zz5 _ ?_)):Mem w (x::y::z::F):=fun q hq=>by{
rcases List.mem_cons.1 hq with rfl|hq
.exact H.mem _ hx
.exact z6 (x:=y) (y:=z) H hF hy hz _ hq}
abbrev zPP (a:Auc)(w:Bid)(fee:Int):List Pst :=
 [⟨w.acct,0,IntKind.i64.wrap (0 - w.amount),0⟩,⟨a.seller,0,IntKind.i64.wrap (w.amount - fee),0⟩,⟨0,0,fee,0⟩,⟨a.seller,a.inst,IntKind.i64.wrap (0 - a.qty),0⟩,⟨w.acct,a.inst,a.qty,0⟩]
theorem zXN {a:Auc}{w:Bid}{fee:Int}(h1:0<=w.amount/\w.amount<=1125899906842624)(h2:0<=fee/\fee<=w.amount)(h3:0<=a.qty/\a.qty<=1125899906842624):zEA a w fee=zPP a w fee:=by{
have e1:IntKind.i64.wrap (0 - w.amount)=-w.amount:=by rw[w64 qO qO];omega
have e2:IntKind.i64.wrap (w.amount - fee)=w.amount - fee:=w64 qO qO;have e3:IntKind.i64.wrap (0 - a.qty)=-a.qty:=by rw[w64 qO qO];omega
unfold zPP;rw[e1,e2,e3];rfl}
section
variable {F:zA}{bm:Nat}{s:Sta}{p:SPt}{n:List Int}{na:OA}{nc:Nat}{t:ByteArray}{Ma Mi Mu R:zA}
theorem c_sold {w0 w:World}(hB:AuB s)(hl:4<=n.length)(hLt:LtS s)(hW:WfR s)(H:St w0 (mkL bm (mkc s p n na nc t) Ma Mi Mu R) w)(hC:Cps s p Ma Mi Mu R)(hF:Mem w0 F)(hN:Ints F na nc n) :
  Calls prog 169 [(pt bm)].toArray w (zZ (zCE bm n na nc t (zGM s n)) w0):=by{
obtain⟨hn2,hc2,b2,off2,cs2,T2,fr2,hs2⟩:=id hN;have hpl:=fun w (G:zA) (hG:Mem w G) (hM:Mkt G bm s p n na nc t)=>zHu qO hLt.au w hG hM;have hlt:=zMG s (nF n 0);have eP:zGM s n=if zAI s (nF n 0)<0 then(s,5) else if zAW (au_ s.aucs (zAI s (nF n 0)).toNat) s.clock=true/\(zI s (au_ s.aucs (zAI s (nF n 0)).toNat)).2.2=true/\(zI s (au_ s.aucs (zAI s (nF n 0)).toNat)).1.acct=nF n 1/\(zI s (au_ s.aucs (zAI s (nF n 0)).toNat)).1.amount=nF n 2/\(zI s (au_ s.aucs (zAI s (nF n 0)).toNat)).2.1=nF n 3 then zAz s (zAI s (nF n 0)).toNat (zEA (au_ s.aucs (zAI s (nF n 0)).toNat) (zI s (au_ s.aucs (zAI s (nF n 0)).toNat)).1 (zI s (au_ s.aucs (zAI s (nF n 0)).toNat)).2.1) else(s,46):=rfl
rw[eP];clear eP;by_cases h0:zAI s (nF n 0)<0
.have d0:decide (zAI s (nF n 0)<0)=true:=yyb h0;rw[if_pos h0];refine eN func169 ntmps169 ?_;(repeat' first|refine yW ?_|(refine c0 zEW ?_;refine⟨_,hpl _ _ (H.all hF) (ze hC hLt hN),?_⟩;clear H;intro w H)|fail);exact zL (M:=_) rfl H ⟨rfl,fun h=>absurd h (show(5:Int)≠0 by decide)⟩
obtain⟨k,hk⟩:∃ k:Nat,zAI s (nF n 0)=k:=⟨(zAI s (nF n 0)).toNat,by omega⟩;rw[hk] at hpl hlt h0 ⊢;rw[Int.toNat_natCast,if_neg h0];have hkl:k<s.aucs.length:=by omega
obtain⟨g,cs,hA,rfl,hcap,hcm,hcl,hE⟩:=zCA (n:=s.aucs.length) (el:=ael s.aucs p.ad) hC.au qO (fun _ _=>rfl);have hsI:=hE.slb (F:=[cb g cs 86]) (T:=86) (zz2 _);rw[<- hA] at hsI;have hfit:=(hE _ hkl).1;have hwin:=fun w (G:zA) (hG:Mem w G) (hM:Mkt G bm s p n na nc t) (hb:Bids G (p.ad k).1 (p.ad k).2 (au_ s.aucs k).bids)=>zHv (au_ s.aucs k) hB.h64 hB.fee (hB.qty k hkl) (hB.win k hkl) w hG hM hb;refine eN func169 ntmps169 ?_;(repeat' first|refine yW ?_|(refine yB ?_;intro b w H)|(refine y11 sg H ?_;intro w H)|(refine c0 zEW ?_;refine⟨_,hpl _ _ (H.all hF) (ze hC hLt hN),?_⟩;clear H;intro w H)|refine x40 sg hsI ?_|(refine y42 sg (hsI) ((show Mem _ [cb g cs 86] from fun p hp=>H.mem p (by cases List.mem_singleton.1 hp;simp))) ?_ ?_;(omega))|(refine c0 zOK ?_;refine⟨_,hwin _ _ (H.all hF) (ze hC hLt hN) (SlA.mono (hC.bd k hkl) qS),?_⟩;clear H;intro w H)|fail);by_cases hC2:zAW (au_ s.aucs k) s.clock=true/\(zI s (au_ s.aucs k)).2.2=true/\(zI s (au_ s.aucs k)).1.acct=nF n 1/\(zI s (au_ s.aucs k)).1.amount=nF n 2/\(zI s (au_ s.aucs k)).2.1=nF n 3;rotate_left
.rw[if_neg hC2];(repeat' first|refine yW ?_|refine x41 sg hs2 ?_|refine zq (zLB sg hs2 (H.memF hF) (show 2<n.length by omega)) ?_|refine zq (zLB sg hs2 (H.memF hF) (show 3<n.length by omega)) ?_|(refine q0 zA3 ?_;refine⟨_,fun _ hcl=>zA6 1 qO _ ((H.ext hcl).all hF) (ze hC hLt hN),?_⟩)|(refine q0 zKO ?_;refine⟨_,fun _ hcl=>zKV (au_ s.aucs k) s.clock _ (H.ext hcl).mem (SlA.mono (hC.bd k hkl) qS),?_⟩)|(refine y18 ?_ ?_;all_goals intro h)|(refine qN H ?_;clear H;intro w H)|refine y20 mixed ?_|(refine y23 ?_ ?_;all_goals intro h)|fail)
 all_goals first
  | exact zL (M:=_) rfl H ⟨rfl,fun h=>absurd h (show(46:Int)≠0 by decide)⟩
  | (exfalso;apply hC2;simp only[Bool.not_eq_eq_eq_not,Bool.not_true,Bool.not_false,bne_eq_false_iff_eq] at *;exact⟨‹_›,‹_›,‹_›,‹_›,‹_›⟩)
  | trace_state
rw[if_pos hC2];have hwo:=zEI hC2.2.1;have hwb:=hB.win k hkl;have hfb:=zQk hwb.1 hB.fee;rw[zXN (by rw[hwo.2.1];exact hwb) (by rw[hwo.2.1,hwo.2.2.1];exact hfb) (hB.qty k hkl)];obtain⟨g0,g1,g2,g3,g4⟩:=hC2;have d0:(!zAW (au_ s.aucs k) s.clock)=false:=by rw[g0];rfl
have d1:(!(zI s (au_ s.aucs k)).2.2)=false:=by rw[g1];rfl
have d2:((zI s (au_ s.aucs k)).1.acct != nF n 1)=false:=by rw[g2];simp
have d3:((zI s (au_ s.aucs k)).1.amount != nF n 2)=false:=by rw[g3];simp
have d4:((zI s (au_ s.aucs k)).2.1 != nF n 3)=false:=by rw[g4];simp
(repeat' first|refine yW ?_|refine x41 sg hs2 ?_|refine zq (zLB sg hs2 (H.memF hF) (show 2<n.length by omega)) ?_|refine zq (zLB sg hs2 (H.memF hF) (show 3<n.length by omega)) ?_|(refine q0 zA3 ?_;refine⟨_,fun _ hcl=>zA6 1 qO _ ((H.ext hcl).all hF) (ze hC hLt hN),?_⟩)|(refine q0 zKO ?_;refine⟨_,fun _ hcl=>zKV (au_ s.aucs k) s.clock _ (H.ext hcl).mem (SlA.mono (hC.bd k hkl) qS),?_⟩)|(refine zBA sg H ?_;intro b w H _)|(replace H:=H.sub (yy5 _ ((zz7 _ _).trans (zz7 _ _)));refine zW rfl rfl (En.fn zTP rfl rfl) (zNe k hkl (zPP (au_ s.aucs k) (zI s (au_ s.aucs k)).1 (zI s (au_ s.aucs k)).2.1) (show 5<=1000 by decide) (Mp:=[_]) ⟨rfl,.inr ⟨_,_,rfl,rfl,zzC _,(show 5<=maxLen by unfold maxLen;decide),rfl,rfl⟩⟩ (hB.bds k hkl) (hB.qty k hkl) hLt hW H hC) ?_;rintro _ _ w ⟨rfl,hR2⟩ H2;clear H;have H:=H2;clear H2)|(refine qN H ?_;clear H;intro w H)|refine y20 mixed ?_|fail);exact zL (M:=_) rfl H ⟨rfl,hR2⟩}
end
end
section
open Go Go.Sk Go.RowKit Tryz
attribute [local irreducible] Go.Calls
theorem keepF {e:Env}{l:List (Nat × Value)}{i:Nat}{x:Value}(h1:e i=x)(h2:e=ovl l e):e=ovl ((i,x)::l) e:=by{
funext q;rw[zBk];by_cases hi:q=i
.rw[if_pos hi,hi,h1]
.rw[if_neg hi];exact congrFun h2 q}
section
variable {G:zA}{bm:Nat}{s:Sta}{p:SPt}{n:List Int}{na:OA}{nc:Nat}{t:ByteArray}
theorem zXO (o u:Odr)(hl:5<=n.length)(hp:1<=nF n 2/\nF n 2<=1073741824)(hq:1<=nF n 3/\nF n 3<=1048576)(hfe:0<=s.fee/\s.fee<=1000)(hno:0<=s.nextO/\s.nextO<=4611686018427387904)(w0:World)(hG:Mem w0 G)(hP:PriM G)(hM:Mkt G bm s p n na nc t) :
  Cr 223 [(pt bm),.agg o.cells.toArray,.agg u.cells.toArray] (.bool (zDR s n o u)) w0:=by{
obtain⟨hn2,hc2,b2,off2,cs2,T2,fr2,hs2⟩:=hM.num;have hmul:=zGX (p:=nF n 2) (q:=nF n 3) hp.1 hp.2 hq.1 hq.2;have hpaid:(zIR (nF n 2) (nF n 3)).1=nF n 2*nF n 3:=by unfold zIR;rw[if_neg qO,if_neg qO]
have hno1:IntKind.i64.wrap (s.nextO - 1)=s.nextO - 1:=w64 qO qO;have eM:zDR s n o u=(o.id==s.nextO - 1&&(zBM s.orders u.inst u.side).1.id==u.id&&zw o u&&nF n 2==u.price&&nF n 3==min o.left u.left&&nF n 4==(zBq (zIR (nF n 2) (nF n 3)).1 s.fee).1):=rfl;have hmin:min o.left u.left=if u.left<o.left then u.left else o.left:=by split<;>omega
rw[eM,<- hno1];clear eM hno1;refine enter [.tmp 6] func223 rfl ntmps223 rfl rfl ?_;have H:=zBm w0;(repeat' first|refine yT ?_|(refine y9 H ?_;intro b w H)|refine yU ?_|fail);refine CW.cutT (fun e w=>∃ b4 b5 b7 e',e=ovl [(0,(pt bm)),(4,(pt b4)),(5,(pt b5)),(7,(pt b7))] e'/\St w0 [cb b7 (zBM s.orders u.inst u.side).1.cells 45,cb b5 u.cells 45,cb b4 o.cells 45] w) ?_ ?_
·(repeat' first|refine yT ?_|(refine y10 sg H ?_;intro b w H)|(refine y11 sg H ?_;intro w H)|(refine CW.regionL mixed 16 (z6s (x:=cb _ u.cells 45) H hG) [] ?_ ?_;exact rfl;refine wQ H ?_;clear H;intro w H;have qh:=z6s (x:=cb _ u.cells 45) H hG;refine lT sg 0 qh ?_;refine lT sg 1 qh ?_;refine lT sg 2 qh ?_;refine lT sg 3 qh ?_;refine' l1 4 qh ?_ ?_;rotate_left;(exact(fun w2 hM2=>zF sg rfl rfl hM2 (zz4 _ hM.blk) rfl rfl));refine lT sg 5 qh ?_;refine' l1 6 qh ?_ ?_;rotate_left;(exact z3 sg);refine lT sg 7 qh ?_;refine' l1 8 qh ?_ ?_;rotate_left;(exact z3 sg))|((with_reducible apply RL.nil);decide +kernel)|(refine lT sg 10 (z6s H hG) ?_)|(refine lT sg 11 (z6s H hG) ?_)|(refine lT sg 12 (z6s H hG) ?_)|(refine lT sg 15 (z6s H hG) ?_)|refine l2 9 ?_|refine l2 13 ?_|refine l2 14 ?_|refine l4 9 13 ?_ ?_|(refine l5 (z6s H hG) ?_)|(refine' y30 ent16 ?_ ?_;rotate_left;exact zQa s.orders u.inst u.side _ (H.memF hG) hP hM.sta.od;refine wQ H ?_;clear H;intro w H)|refine yU ?_|fail);all_goals exact⟨_,_,_,_,keepF rfl (zA2 rfl rfl rfl),H⟩
clear H;rintro _ w ⟨b4,b5,b7,e',rfl,H⟩;(repeat' first|refine yT ?_|refine y8 sg H ?_|refine z13 (zF sg rfl rfl (H.memF hG) hM.blk rfl rfl) ?_|((with_reducible apply zAp);exact rfl;exact rfl;exact zF sg rfl rfl (H.memF hG) hM.blk rfl rfl)|refine x41 sg hs2 ?_|((with_reducible apply zAp);exact rfl;exact rfl;exact Yq.loadB1 sg hs2 (H.memF hG) rfl rfl rfl rfl (show 2<n.length by omega) rfl)|((with_reducible apply zAp);exact rfl;exact rfl;exact Yq.loadB1 sg hs2 (H.memF hG) rfl rfl rfl rfl (show 3<n.length by omega) rfl)|((with_reducible apply zAp);exact rfl;exact rfl;exact Yq.loadB1 sg hs2 (H.memF hG) rfl rfl rfl rfl (show 4<n.length by omega) rfl)|(refine' y31 ent258 ?_ ?_;rotate_left;exact(fun _ hcl=>c_Mul (nF n 2) (nF n 3) qO qO qO qO qO _))|(refine' y30 zIz ?_ ?_;rotate_left;exact zJc (zIR (nF n 2) (nF n 3)).1 s.fee qO qO qO qO _;refine wQ H ?_;clear H;intro w H)|(refine' y31 zS2 ?_ ?_;rotate_left;exact(fun _ hcl=>zKp o u _ ((H.ext hcl).memF hG) hP))|refine yU ?_|(refine y18 ?_ ?_;all_goals intro h)|(with_reducible apply zGR;refine wQ H ?_;clear H;intro w H)|refine y20 mixed ?_|fail)
all_goals
 refine zG rfl H.cl (congrArg Value.bool ?_);show _=(o.id==IntKind.i64.wrap (s.nextO - 1)&&(zBM s.orders u.inst u.side).1.id==u.id&&zw o u&&n.getD (Int.toNat 2) 0==u.price&&n.getD (Int.toNat 3) 0==min o.left u.left&&n.getD (Int.toNat 4) 0==(zBq (zIR (nF n 2) (nF n 3)).1 s.fee).1);rw[hmin];simp only[*,Bool.true_and,Bool.and_true,Bool.and_false,Bool.false_and]}
end
end
section
open Go Go.Sk Go.RowKit Tryz
attribute [local irreducible] Go.Calls
section
variable {F G:zA}{bm:Nat}{s:Sta}{p:SPt}{n:List Int}{na:OA}{nc:Nat}{t:ByteArray}{Ma Mi Mu R:zA}
theorem wk_R {w0 w:World}{cs:List Value}{ts N:zA}{s:Sta}{p:SPt}(H:St w0 (mkL bm cs Ma Mi Mu (R++ts++N)) w)(hC:Cps s p Ma Mi Mu (R++ts++N)):∃ R':zA,(∀ x∈ts,x∈R')/\R⊆R'/\St w0 (mkL bm cs Ma Mi Mu R') w/\Cps s p Ma Mi Mu R' :=
 ⟨_,fun x hx=>zz6 _ (zz3 _ hx),fun x hx=>zz6 _ (zz6 _ hx),H,hC⟩
theorem zB7 {cs:List Value}{x:Nat × Obj}(h:x∈R):x∈mkL bm cs Ma Mi Mu R:=by simp[h]
theorem zAt {cs:List Value}{x:Nat × Obj}{M:zA}(h:x∈R):x∈cb bm cs 182::(Ma++(Mi++(Mu++R))++M):=by simp[h]
abbrev zPQ (b l:Odr)(inst price q fee:Int):List Pst:=[⟨b.acct,0,IntKind.i64.wrap (IntKind.i64.wrap (b.price - price)*q),IntKind.i64.wrap (IntKind.i64.wrap (0 - b.price)*q)⟩,⟨l.acct,0,IntKind.i64.wrap (IntKind.i64.wrap (price*q) - fee),0⟩,⟨0,0,fee,0⟩,⟨l.acct,inst,0,IntKind.i64.wrap (0 - q)⟩,⟨b.acct,inst,q,0⟩]
theorem zVK {b l:Odr}(hb:zAV b){inst price q fee:Int}(hp:1<=price/\price<=1073741824)(hq:1<=q/\q<=1048576)(hf:0<=fee/\fee<=1125899906842624) :
  zBX b l inst price q fee=zPQ b l inst price q fee:=by{
have hbp:=hb.2.2.2.2.1;have m1:=zGX (p:=b.price) (q:=q) qO hbp.2 hq.1 hq.2;have m2:=zGX (p:=price) (q:=q) hp.1 hp.2 hq.1 hq.2;have e1:IntKind.i64.wrap (b.price - price)=b.price - price:=w64 qO qO;have e2:IntKind.i64.wrap (0 - b.price)=-b.price:=by rw[w64 qO qO];omega
have e3:(b.price - price)*q=b.price*q - price*q:=Int.sub_mul ..;have e4:-b.price*q=-(b.price*q):=Int.neg_mul ..;have e5:IntKind.i64.wrap ((b.price - price)*q)=(b.price - price)*q:=by rw[e3];exact w64 qO qO
have e6:IntKind.i64.wrap (-b.price*q)=-b.price*q:=by rw[e4];exact w64 qO qO
have e7:IntKind.i64.wrap (price*q)=price*q:=w64 qO qO;have e8:IntKind.i64.wrap (price*q - fee)=price*q - fee:=w64 qO qO;have e9:IntKind.i64.wrap (0 - q)=-q:=by rw[w64 qO qO];omega
unfold zPQ;rw[e1,e2,e5,e6,e7,e8,e9];rfl}
theorem zVL {w0 w:World}(h:Good s)(hLt:LtS s)(hW:WfR s)(hl:5<=n.length)(hp:1<=nF n 2/\nF n 2<=1073741824)(hq:1<=nF n 3/\nF n 3<=1048576)(hf:0<=nF n 4/\nF n 4<=1125899906842624)(hP:PriM F)(H:St w0 (mkL bm (mkc s p n na nc t) Ma Mi Mu R) w)(hC:Cps s p Ma Mi Mu R)(hF:Mem w0 F)(hN:Ints F na nc n) :
  Calls prog 164 [(pt bm)].toArray w (zZ (zCE bm n na nc t (zDn s n)) w0):=by{
obtain⟨hn2,hc2,b2,off2,cs2,T2,fr2,hs2⟩:=id hN;have hs2F:=hs2.mono (yyu (cb bm (mkc s p n na nc t) 182) F);have hnum:=zAL.1 h.nums;have g:=h;clear h;have eP:zDn s n=if (zO s.orders (nF n 0)).2=true/\(zO s.orders (nF n 1)).2=true then(if zDR s n (zO s.orders (nF n 0)).1 (zO s.orders (nF n 1)).1=true then(if (zO s.orders (nF n 0)).1.acct=(zO s.orders (nF n 1)).1.acct then(s,49) else if (zf s (if (zO s.orders (nF n 0)).1.side=2 then zBX (zO s.orders (nF n 1)).1 (zO s.orders (nF n 0)).1 (zO s.orders (nF n 0)).1.inst (nF n 2) (nF n 3) (nF n 4) else zBX (zO s.orders (nF n 0)).1 (zO s.orders (nF n 1)).1 (zO s.orders (nF n 0)).1.inst (nF n 2) (nF n 3) (nF n 4))).2≠0 then zf s (if (zO s.orders (nF n 0)).1.side=2 then zBX (zO s.orders (nF n 1)).1 (zO s.orders (nF n 0)).1 (zO s.orders (nF n 0)).1.inst (nF n 2) (nF n 3) (nF n 4) else zBX (zO s.orders (nF n 0)).1 (zO s.orders (nF n 1)).1 (zO s.orders (nF n 0)).1.inst (nF n 2) (nF n 3) (nF n 4)) else({ (zf s (if (zO s.orders (nF n 0)).1.side=2 then zBX (zO s.orders (nF n 1)).1 (zO s.orders (nF n 0)).1 (zO s.orders (nF n 0)).1.inst (nF n 2) (nF n 3) (nF n 4) else zBX (zO s.orders (nF n 0)).1 (zO s.orders (nF n 1)).1 (zO s.orders (nF n 0)).1.inst (nF n 2) (nF n 3) (nF n 4))).1 with orders:=(zA1 (zA1 s.orders (zO s.orders (nF n 0)).1.id (nF n 3)).1 (zO s.orders (nF n 1)).1.id (nF n 3)).1 },0)) else(s,46)) else(s,5):=rfl
rw[eP];clear eP;have hfnd:=fun w (j:Int) (L:zA) (hG:Mem w (L++F)) (hsub:R⊆L)=>zGc s.orders j w hG (SlA.mono hC.od fun p hp=>zz6 _ (hsub hp));have hfo:(zO s.orders (nF n 0)).2=true->(zO s.orders (nF n 0)).1∈s.orders:=fun e=>(zC5 e).2.1;have hfu:(zO s.orders (nF n 1)).2=true->(zO s.orders (nF n 1)).1∈s.orders:=fun e=>(zC5 e).2.1;generalize hO:zO s.orders (nF n 0)=fo at *;generalize hU:zO s.orders (nF n 1)=fu at *;obtain⟨o,f1⟩:=fo;obtain⟨u,f2⟩:=fu;simp only at hfo hfu ⊢;have hfnd0:=fun w (L:zA) (hG:Mem w (L++F)) (hsub:R⊆L)=>hfnd w (nF n 0) L hG hsub;have hfnd1:=fun w (L:zA) (hG:Mem w (L++F)) (hsub:R⊆L)=>hfnd w (nF n 1) L hG hsub;rw[hO] at hfnd0;rw[hU] at hfnd1;clear hfnd hO hU;refine eN func164 ntmps164 ?_;(repeat' first|refine yX ?_|fail);refine CW.cutT (fun e w=>∃ b e',e=ovl [(0,(pt bm)),(3,(pt b)),(4,.bool f1)] e'/\St w0 (cb b o.cells 45::mkL bm (mkc s p n na nc t) Ma Mi Mu R) w) ?_ ?_
·(repeat' first|refine yX ?_|(refine yB ?_;intro b w H)|(refine y11 sg H ?_;intro w H)|(refine CW.regionL mixed 18 (z6s (x:=cb bm (mkc s p n na nc t) 182) H hF) [] ?_ ?_;exact rfl;refine wQ H ?_;clear H;intro w H;have qh:=z6s (x:=cb bm (mkc s p n na nc t) 182) H hF;refine lT sg 0 qh ?_;refine lT sg 1 qh ?_;refine lT sg 2 qh ?_;refine lT sg 3 qh ?_;refine' l1 4 qh ?_ ?_;rotate_left;(exact z3 sg);refine lT sg 5 qh ?_;refine lT sg 6 qh ?_;refine lT sg 7 qh ?_;refine' l1 8 qh ?_ ?_;rotate_left;(exact z3 sg);refine' l1 9 qh ?_ ?_;rotate_left;(exact(zQ sg hs2));refine' l1 10 qh ?_ ?_;rotate_left;(exact(zK sg hs2F (show 0<n.length by omega))))|refine lN ?_|(refine lT sg 12 (z6s H hF) ?_)|(refine lT sg 13 (z6s H hF) ?_)|(refine lT sg 14 (z6s H hF) ?_)|(refine lT sg 17 (z6s H hF) ?_)|refine l2 11 ?_|refine l2 15 ?_|refine l2 16 ?_|refine l4 11 15 ?_ ?_|(refine l5 (z6s H hF) ?_)|(refine c0 zEV ?_;refine⟨_,hfnd0 _ _ (H.all hF) (fun p hp=>by simp[hp]),?_⟩;clear H;intro w H)|fail);all_goals exact⟨b,_,zA2 rfl rfl rfl,H⟩
clear H;rintro _ w ⟨b3,e',rfl,H⟩;(repeat' first|refine yX ?_|fail);refine CW.cutT (fun e w=>∃ b5 e',e=ovl [(0,(pt bm)),(3,(pt b3)),(4,.bool f1),(5,(pt b5)),(6,.bool f2)] e'/\St w0 (cb b5 u.cells 45::cb b3 o.cells 45::mkL bm (mkc s p n na nc t) Ma Mi Mu R) w) ?_ ?_
·(repeat' first|refine yX ?_|(refine yB ?_;intro b w H)|(refine y11 sg H ?_;intro w H)|(refine CW.regionL mixed 18 (z6s (x:=cb bm (mkc s p n na nc t) 182) H hF) [] ?_ ?_;exact rfl;refine wQ H ?_;clear H;intro w H;have qh:=z6s (x:=cb bm (mkc s p n na nc t) 182) H hF;refine lT sg 0 qh ?_;refine lT sg 1 qh ?_;refine lT sg 2 qh ?_;refine lT sg 3 qh ?_;refine' l1 4 qh ?_ ?_;rotate_left;(exact z3 sg);refine lT sg 5 qh ?_;refine lT sg 6 qh ?_;refine lT sg 7 qh ?_;refine' l1 8 qh ?_ ?_;rotate_left;(exact z3 sg);refine' l1 9 qh ?_ ?_;rotate_left;(exact(zQ sg hs2));refine' l1 10 qh ?_ ?_;rotate_left;(exact(zK sg hs2F (show 1<n.length by omega))))|refine lN ?_|(refine lT sg 12 (z6s H hF) ?_)|(refine lT sg 13 (z6s H hF) ?_)|(refine lT sg 14 (z6s H hF) ?_)|(refine lT sg 17 (z6s H hF) ?_)|refine l2 11 ?_|refine l2 15 ?_|refine l2 16 ?_|refine l4 11 15 ?_ ?_|(refine l5 (z6s H hF) ?_)|(refine c0 zEV ?_;refine⟨_,hfnd1 _ _ (H.all hF) (fun p hp=>by simp[hp]),?_⟩;clear H;intro w H)|fail);all_goals exact⟨b,_,zz rfl (zz rfl (zA2 rfl rfl rfl)),H⟩
clear H;rintro _ w ⟨b5,e2',rfl,H⟩;cases f1 with
| false =>
  rw[if_neg (fun e=>by cases e.1)];(repeat' first|refine yW ?_|fail);all_goals exact zL (M:=_) rfl H ⟨rfl,fun h=>absurd h (show(5:Int)≠0 by decide)⟩
| true =>
cases f2 with
| false =>
  rw[if_neg (fun e=>by cases e.2)];(repeat' first|refine yW ?_|fail);all_goals exact zL (M:=_) rfl H ⟨rfl,fun h=>absurd h (show(5:Int)≠0 by decide)⟩
| true =>
rw[if_pos ⟨rfl,rfl⟩];have mo:=(zAK.1 g.ords).2.1 _ (hfo rfl);have mu:=(zAK.1 g.ords).2.1 _ (hfu rfl);have hme:=fun w (L:zA) (hG:Mem w (L++F)) (hM:Mkt (L++F) bm s p n na nc t)=>zXO o u hl hp hq hnum.2.1 qO w hG (hP.mono (zz8 _ _)) hM;by_cases h2:zDR s n o u=true;rotate_left
.have d2:(!zDR s n o u)=true:=by simpa using h2
 rw[if_neg h2];(repeat' first|refine yX ?_|(refine c0 zTM ?_;refine⟨_,hme _ _ (H.all hF) (ze hC hLt hN),?_⟩;clear H;intro w H)|fail);refine CW.condT (congrArg Value.bool d2) ?_;(repeat' first|refine yX ?_|fail);exact zL (M:=_) rfl H ⟨rfl,fun h=>absurd h (show(46:Int)≠0 by decide)⟩
have d2:(!zDR s n o u)=false:=by simpa using h2
rw[if_pos h2];(repeat' first|refine yX ?_|(refine c0 zTM ?_;refine⟨_,hme _ _ (H.all hF) (ze hC hLt hN),?_⟩;clear H;intro w H)|fail);refine CW.condF (congrArg Value.bool d2) ?_;by_cases h3:o.acct=u.acct
.have d3:(o.acct==u.acct)=true:=by simpa using h3
 rw[if_pos h3];(repeat' first|refine yX ?_|fail);refine CW.condT (congrArg Value.bool d3) ?_;(repeat' first|refine yX ?_|fail);exact zL (M:=_) rfl H ⟨rfl,fun h=>absurd h (show(49:Int)≠0 by decide)⟩
have d3:(o.acct==u.acct)=false:=by simpa using h3
rw[if_neg h3];(repeat' first|refine yX ?_|fail);refine CW.condF (congrArg Value.bool d3) ?_;(repeat' first|refine yX ?_|fail);refine CW.cutT (fun e w=>∃ b7 b8 e',e=ovl [(0,(pt bm)),(3,(pt b3)),(5,(pt b5)),(7,(pt b7)),(8,(pt b8))] e'/\St w0 (cb b7 o.cells 45::cb b8 u.cells 45::cb b5 u.cells 45::cb b3 o.cells 45::mkL bm (mkc s p n na nc t) Ma Mi Mu R) w) ?_ ?_
·(repeat' first|refine yX ?_|(refine yB ?_;intro b w H)|(refine y11 sg H ?_;intro w H)|(refine CW.regionL mixed 6 (z6 (x:=cb b5 u.cells 45) (y:=cb b3 o.cells 45) H hF) [] ?_ ?_;exact rfl;refine wQ H ?_;clear H;intro w H;refine' l1 0 (z6 H hF) ?_ ?_;rotate_left;(exact z3 sg);refine' l1 1 (z6 H hF) ?_ ?_;rotate_left;(exact z3 sg))|refine lN ?_|refine l2 2 ?_|refine l2 3 ?_|refine l2 4 ?_|refine l2 5 ?_|refine l4 2 3 ?_ ?_|(refine l5 (z6 H hF) ?_)|fail)
 all_goals first
  | exact⟨_,_,_,zz rfl (zz rfl (zA2 rfl rfl rfl)),H⟩
  | exact⟨_,_,_,zz rfl (zz rfl (zA2 rfl rfl rfl)),H.perm (List.Perm.swap _ _ _)⟩
clear H;rintro _ w ⟨b7,b8,e3',rfl,H⟩;obtain⟨y,z,my,hPe,hcase⟩:∃ y z:Odr,zAV y/\(if o.side=2 then zBX u o o.inst (nF n 2) (nF n 3) (nF n 4) else zBX o u o.inst (nF n 2) (nF n 3) (nF n 4))=zBX y z o.inst (nF n 2) (nF n 3) (nF n 4)/\((o.side=2/\y=u/\z=o)\/(o.side≠2/\y=o/\z=u)):=by
 by_cases h5:o.side=2
 .exact⟨u,o,mu,by rw[if_pos h5],.inl ⟨h5,rfl,rfl⟩⟩
 .exact⟨o,u,mo,by rw[if_neg h5],.inr ⟨h5,rfl,rfl⟩⟩
rw[hPe,zVK my hp hq hf];clear hPe;refine zCQ ?_;refine CW.cutT (fun e w=>∃ e',e=ovl [(0,(pt bm)),(3,(pt b3)),(5,(pt b5)),(7,(pt b7)),(8,(pt b8))] e'/\St w0 (cb b7 y.cells 45::cb b8 z.cells 45::cb b5 u.cells 45::cb b3 o.cells 45::mkL bm (mkc s p n na nc t) Ma Mi Mu R) w) ?_ ?_
.rcases hcase with ⟨h5,rfl,rfl⟩|⟨h5,rfl,rfl⟩
 .have d5:(z.side==2)=true:=by{simpa using h5};(repeat' first|refine yX ?_|fail)
  refine CW.condT (congrArg Value.bool d5) ?_;(repeat' first|refine yX ?_|(refine y11 sg H ?_;intro w H)|(refine CW.regionL mixed 4 (z6 (x:=cb b5 y.cells 45) (y:=cb b3 z.cells 45) H hF) [] ?_ ?_;exact rfl;refine wQ H ?_;clear H;intro w H;refine' l1 0 (z6 H hF) ?_ ?_;rotate_left;(exact z3 sg);refine' l1 1 (z6 H hF) ?_ ?_;rotate_left;(exact z3 sg))|refine lN ?_|refine l2 2 ?_|refine l2 3 ?_|(refine l5 (z6 H hF) ?_)|fail);all_goals exact⟨_,zz rfl (zz rfl (zA2 rfl rfl rfl)),H⟩
 .have d5:(y.side==2)=false:=by{simpa using h5};(repeat' first|refine yX ?_|fail)
  refine CW.condF (congrArg Value.bool d5) ?_;(repeat' first|refine yX ?_|fail);exact⟨_,zz rfl (zz rfl (zA2 rfl rfl rfl)),H⟩
clear H;rintro _ w ⟨e4',rfl,H⟩;(repeat' first|refine yX ?_|refine x41 sg hs2 ?_|refine zq (zLB sg hs2 (H.memF hF) (show 2<n.length by omega)) ?_|refine zq (zLB sg hs2 (H.memF hF) (show 3<n.length by omega)) ?_|refine zq (zLB sg hs2 (H.memF hF) (show 4<n.length by omega)) ?_|(refine zBA sg H ?_;intro b w H _)|(replace H:=H.perm (zCY [_,_,_,_,_]);refine zW rfl rfl (En.fn zGT rfl rfl) (zGf hLt hW (zPQ y z o.inst (nF n 2) (nF n 3) (nF n 4)) H (hC.mono (yyi _ _)) H.mem (zJh _ (Nat.le_of_ble_eq_true rfl) rfl (zJi (zz2 _)))) ?_;rintro _ _ w ⟨rfl,p',M',rfl,hC'⟩ H2;clear H;have H:=H2;clear H2)|(refine qN H ?_;clear H;intro w H)|refine y20 mixed ?_|fail);by_cases h6:(zf s (zPQ y z o.inst (nF n 2) (nF n 3) (nF n 4))).2≠0
.have d6:((zf s (zPQ y z o.inst (nF n 2) (nF n 3) (nF n 4))).2 != 0)=true:=by simpa using h6
 rw[if_pos h6];refine CW.condT (congrArg Value.bool d6) ?_;(repeat' first|refine yX ?_|fail);exact zL (M:=_) rfl H ⟨rfl,fun h=>absurd h h6⟩
have d6:((zf s (zPQ y z o.inst (nF n 2) (nF n 3) (nF n 4))).2 != 0)=false:=by simpa using h6
rw[if_neg h6];refine CW.condF (congrArg Value.bool d6) ?_;obtain⟨rs,hrs⟩:∃ rs,(zf s (zPQ y z o.inst (nF n 2) (nF n 3) (nF n 4))).1={ s with rows:=rs }:=zDb _ _;rw[hrs] at H hC' ⊢;clear hrs d6 h6;obtain⟨R',hts,hRs,H3,hC3⟩:=wk_R H hC';clear H hC';have H:=H3;have hC':=hC3;clear H3 hC3;have hm3:=hts (cb b3 o.cells 45) (by simp);have hm5:=hts (cb b5 u.cells 45) (by simp);clear hts;(repeat' first|refine yX ?_|(refine y11 sg H ?_;intro w H)|(refine CW.regionL mixed 17 (z6s (x:=cb b3 o.cells 45) H hF (by first|exact zB7 hm3|exact zAt hm3)) [] ?_ ?_;exact rfl;refine wQ H ?_;clear H;intro w H;have qh:=z6s (x:=cb b3 o.cells 45) H hF (by first|exact zB7 hm3|exact zAt hm3);refine lT sg 0 qh ?_;refine lT sg 1 qh ?_;refine lT sg 2 qh ?_;refine lT sg 3 qh ?_;refine lT sg 4 qh ?_;refine lT sg 6 qh ?_;refine' l1 7 qh ?_ ?_;rotate_left;(exact z3 sg);refine lT sg 8 qh ?_)|refine lN ?_|(refine lT sg 10 (z6s H hF (by first|exact zB7 hm3|exact zAt hm3)) ?_)|(refine lT sg 11 (z6s H hF (by first|exact zB7 hm3|exact zAt hm3)) ?_)|(refine lT sg 12 (z6s H hF (by first|exact zB7 hm3|exact zAt hm3)) ?_)|(refine lT sg 13 (z6s H hF (by first|exact zB7 hm3|exact zAt hm3)) ?_)|(refine lT sg 14 (z6s H hF (by first|exact zB7 hm3|exact zAt hm3)) ?_)|(refine lT sg 15 (z6s H hF (by first|exact zB7 hm3|exact zAt hm3)) ?_)|refine l2 5 ?_|refine l2 9 ?_|refine l2 16 ?_|(refine l5 (z6s H hF (by first|exact zB7 hm3|exact zAt hm3)) ?_)|(refine f0 zLO ?_;refine⟨_,zIk s.orders o.id (nF n 3) _ H.mem (SlA.mono hC'.od (fun p hp=>zz4 _ (zz3 _ (zz3 _ (zz3 _ hp))))),?_⟩;clear H;intro v M w hR H;(try simp only[zca,zcb] at H);obtain⟨a1,c1,rfl,hsl⟩:=hR)|fail);have H3:St w0 (mkL bm (mkc { s with rows:=rs,orders:=(zA1 s.orders o.id (nF n 3)).1 } { p' with odA:=a1,odC:=c1 } n na nc t) Ma Mi Mu (R'++M)) w:=by have h9:=H;simp only[yyh] at h9 ⊢;exact h9
clear H;have H:=H3;clear H3;obtain⟨R2,hR2,hm5,hsl,hRs2⟩:∃ R2:zA,R'++M=R2/\cb b5 u.cells 45∈R2/\SlA R2 6 a1 (zA1 s.orders o.id (nF n 3)).1.length c1 (odl (zA1 s.orders o.id (nF n 3)).1)/\R'⊆R2:=⟨_,rfl,zz6 _ hm5,SlA.mono hsl (zz8 _ _),yyi _ _⟩;rw[hR2] at H;clear hR2;(repeat' first|refine yX ?_|(refine y11 sg H ?_;intro w H)|(refine CW.regionL mixed 17 (z6s (x:=cb b5 u.cells 45) H hF (by first|exact zB7 hm5|exact zAt hm5)) [] ?_ ?_;exact rfl;refine wQ H ?_;clear H;intro w H;have qh:=z6s (x:=cb b5 u.cells 45) H hF (by first|exact zB7 hm5|exact zAt hm5);refine lT sg 0 qh ?_;refine lT sg 1 qh ?_;refine lT sg 2 qh ?_;refine lT sg 3 qh ?_;refine lT sg 4 qh ?_;refine lT sg 6 qh ?_;refine' l1 7 qh ?_ ?_;rotate_left;(exact z3 sg);refine lT sg 8 qh ?_)|refine lN ?_|(refine lT sg 10 (z6s H hF (by first|exact zB7 hm5|exact zAt hm5)) ?_)|(refine lT sg 11 (z6s H hF (by first|exact zB7 hm5|exact zAt hm5)) ?_)|(refine lT sg 12 (z6s H hF (by first|exact zB7 hm5|exact zAt hm5)) ?_)|(refine lT sg 13 (z6s H hF (by first|exact zB7 hm5|exact zAt hm5)) ?_)|(refine lT sg 14 (z6s H hF (by first|exact zB7 hm5|exact zAt hm5)) ?_)|(refine lT sg 15 (z6s H hF (by first|exact zB7 hm5|exact zAt hm5)) ?_)|refine l2 5 ?_|refine l2 9 ?_|refine l2 16 ?_|(refine l5 (z6s H hF (by first|exact zB7 hm5|exact zAt hm5)) ?_)|(refine f0 zLO ?_;refine⟨_,zIk (zA1 s.orders o.id (nF n 3)).1 u.id (nF n 3) _ H.mem (SlA.mono hsl (fun p hp=>zz4 _ (zz3 _ (zz3 _ (zz3 _ hp))))),?_⟩;clear H;intro v M w hR H;(try simp only[zca,zcb] at H);obtain⟨a2,c2,rfl,hsl2⟩:=hR)|fail);simp only[yyh] at H;refine zL (M:=mkL bm (mkc { s with rows:=rs,orders:=(zA1 (zA1 s.orders o.id (nF n 3)).1 u.id (nF n 3)).1 } { p' with odA:=a2,odC:=c2 } n na nc t) Ma Mi Mu (R2++M)) rfl H ⟨rfl,fun _=>⟨{ p' with odA:=a2,odC:=c2 },Ma,Mi,Mu,_,rfl,hC'.ac,hC'.ins,SlA.mono hC'.rw (fun q hq=>zz6 _ (hRs2 hq)),SlA.mono hsl2 (zz8 _ _),hC'.au,fun j hj=>SlA.mono (hC'.bd j hj) (fun q hq=>zz6 _ (hRs2 hq))⟩⟩}
end
end
section
open Go Go.Sk Go.RowKit Tryz
attribute [local irreducible] Go.Calls
theorem zBt {s t:Sta}{e:Evt}(hd:zM s e=(t,0)):Good s/\Good t/\EvOk e/\e.v=3/\zk e=true/\zB6 s e.kind e.nums (e.texts.getD 0 ByteArray.empty)=(t,0):=by{
obtain⟨g1,g2⟩:=zEJ hd;unfold zM at hd;rw[if_pos (zAl.2 g1)] at hd;unfold zAG at hd;split at hd
.rename_i h1;split at hd
 .exact⟨g1,g2,zQJ h1.1 h1.2,h1.1,h1.2,hd⟩
 .rename_i g;exact absurd (Prod.mk.inj hd).2 g
.exact absurd (Prod.mk.inj hd).2 (by decide)}
end
end Go.Proofs.YtejhijhnlogikaaGreatDoor
